/- A part of the proof. -/
import Derived.Test.YtghefemofbipnaaGreatW21
set_option maxRecDepth 100000
set_option maxHeartbeats 4000000
set_option linter.unusedSimpArgs false
set_option linter.unusedVariables false
set_option linter.unusedSectionVars false
set_option linter.unnecessarySimpa false

open Option.some renaming inj→zH
open List renaming length_cons→qJ
open List renaming length_append→qK
open List renaming length_nil→zD
open Option renaming bind_some→zM
open List renaming replicate→qZ
namespace Go.Vc.T
open Go Go.Vc Go.Proofs
attribute [local simp] unk unA unE unT unC flat
noncomputable def Qw (list_:List SF) (at_0:XPart):Option (SF × List (List (List Int)) × Bool) :=
 ass ((0:Int)≤0∧0<(list_.length:Int)) <|
 ass (0≤(gx list_ 0).s.n∧(gx list_ 0).s.n≤1073741824) <|
 ass (0≤(gx list_ 0).s.n∧(gx list_ 0).s.n≤1073741824) <|
 ass ((qZ (((gx list_ 0).s.n).toNat) ([]:List (List Int))).length=(((gx list_ 0).s.n).toNat)) <|
 (eoF (fun k=>Qv k at_0) (((gx list_ 0).s.n).toNat)).bind fun v3 =>
 ass (v3.length=(qZ (((gx list_ 0).s.n).toNat) ([]:List (List Int))).length) <|
 (Q15 ((gx list_ 0).s)).bind fun v7 =>
 ass (0≤(list_.length:Int)∧(list_.length:Int)≤1073741824) <|
 (QM (σ:=List Int × List (List (List Int)) × (List (List (ByteArray × Int))) × Int) (ε:=List Int × List (List (List Int)) × (List (List (ByteArray × Int)))) (fun s30 =>
  if s30.2.2.2<(v3.length:Int) then
   (
    ass (0≤s30.2.2.2∧s30.2.2.2<(v3.length:Int)) <|
    ass ((s30.1++[((gx v3 s30.2.2.2).length:Int)]).length≤1073741824) <|
    (Q2h (gx v3 s30.2.2.2)).bind fun v35 =>
    ass ((s30.2.2.1++[v35]).length≤1073741824) <|
    (QM (σ:=List (List (List Int)) × Int) (ε:=List (List (List Int)) × (List (List (ByteArray × Int)))) (fun s43 =>
     if s43.2<(list_.length:Int) then
      ass (0≤s43.2∧s43.2<(s43.1.length:Int)) <|
      (Q2g (gx v3 s30.2.2.2) s43.2).bind fun v46 =>
      ass (((gx s43.1 s43.2)++[v46]).length≤1073741824) <|
      ass (0≤s43.2∧s43.2<(s43.1.length:Int)) <|
      ass (B64 (s43.2+1)) <|
      some (Ctl.next (s43.1.set s43.2.toNat ((gx s43.1 s43.2)++[v46]),s43.2+1))
     else
      some (Ctl.ret (s43.1,s30.2.2.1++[v35]))) fuel (s30.2.1,0)).bind fun p43 =>
    some p43:Option (List (List (List Int)) × (List (List (ByteArray × Int))))).bind fun b32 =>
   ass (B64 (s30.2.2.2+1)) <|
   some (Ctl.next (s30.1++[((gx v3 s30.2.2.2).length:Int)],b32.1,b32.2,s30.2.2.2+1))
  else
   some (Ctl.ret (s30.1,s30.2.1,s30.2.2.1))) fuel ([],qZ ((list_.length:Int).toNat) ([]:List (List Int)),[],0)).bind fun b9 =>
 (Q2s b9.1).bind fun v51 =>
 if ¬ (v51=true) then
  some ((⟨(⟨0,[],[],[],[]⟩:Cat),[],[]⟩:SF),[],false)
 else
  (QM (σ:=List (List Int) × Int) (ε:=List (List Int)) (fun s107 =>
   if s107.2<(((gx list_ 0).s.fr).length:Int) then
    ass (0≤s107.2∧s107.2<(((gx list_ 0).s.fr).length:Int)) <|
    ass (0≤ix ((gx list_ 0).s.fr) s107.2∧ix ((gx list_ 0).s.fr) s107.2<(v3.length:Int)) <|
    (QM (σ:=List Int × Int) (ε:=List Int) (fun s135 =>
     if s135.2<((gx v3 (ix ((gx list_ 0).s.fr) s107.2)).length:Int) then
      ass (0≤s135.2∧s135.2<((gx v3 (ix ((gx list_ 0).s.fr) s107.2)).length:Int)) <|
      (QM (σ:=List Int × Int) (ε:=List Int) (fun s146 =>
       if s146.2<((rx (gx v3 (ix ((gx list_ 0).s.fr) s107.2)) s135.2).length:Int) then
        ass (0≤s146.2∧s146.2<((rx (gx v3 (ix ((gx list_ 0).s.fr) s107.2)) s135.2).length:Int)) <|
        ass (0≤s146.2∧s146.2<(list_.length:Int)) <|
        ass (0≤s107.2∧s107.2<(((gx list_ s146.2).ac).length:Int)) <|
        ass (0≤ix (rx (gx v3 (ix ((gx list_ 0).s.fr) s107.2)) s135.2) s146.2∧ix (rx (gx v3 (ix ((gx list_ 0).s.fr) s107.2)) s135.2) s146.2<((rx ((gx list_ s146.2).ac) s107.2).length:Int)) <|
        ass ((s146.1++[ix (rx ((gx list_ s146.2).ac) s107.2) (ix (rx (gx v3 (ix ((gx list_ 0).s.fr) s107.2)) s135.2) s146.2)]).length≤1073741824) <|
        ass (B64 (s146.2+1)) <|
        some (Ctl.next (s146.1++[ix (rx ((gx list_ s146.2).ac) s107.2) (ix (rx (gx v3 (ix ((gx list_ 0).s.fr) s107.2)) s135.2) s146.2)],s146.2+1))
       else
        some (Ctl.ret s146.1)) fuel ([],0)).bind fun b138 =>
      ass (0≤s107.2∧s107.2<(((gx list_ 0).s.to).length:Int)) <|
      ass (0≤ix ((gx list_ 0).s.to) s107.2∧ix ((gx list_ 0).s.to) s107.2<(b9.2.2.length:Int)) <|
      (Q40 [b138]).bind fun v156 =>
      ass ((s135.1++[(Q2z v156 (gx b9.2.2 (ix ((gx list_ 0).s.to) s107.2))).getD 0]).length≤1073741824) <|
      ass (B64 (s135.2+1)) <|
      some (Ctl.next (s135.1++[(Q2z v156 (gx b9.2.2 (ix ((gx list_ 0).s.to) s107.2))).getD 0],s135.2+1))
     else
      some (Ctl.ret s135.1)) fuel ([],0)).bind fun b111 =>
    ass ((s107.1++[b111]).length≤1073741824) <|
    ass (B64 (s107.2+1)) <|
    some (Ctl.next (s107.1++[b111],s107.2+1))
   else
    some (Ctl.ret s107.1)) fuel ([],0)).bind fun b53 =>
  some ((⟨v7,b9.1,b53⟩:SF),b9.2.1,true)
theorem QW {F : Fx} {st st' : St} (m : List (Nat × Nat)) (h : (m.map Prod.fst).Nodup ∧ (m.map Prod.snd).Nodup ∧ (∀ id, id < F.pins → look id m = some id) ∧ (∀ p ∈ m, p.2 < st'.n) ∧ (∀ p ∈ st'.h, p.1 < st'.n) ∧ (∀ p ∈ st'.s, p.2 = rl m (st.get p.1) ∨ p.2 = .bot) ∧ ∀ p ∈ st'.h, hhOk m st.h p.1 p.2 := by simp [hP, hhOk, back, idQ, Cat.cells, SF.cells, UA, U1, IA, I1, LA, L1, BA, B1, EA, E1, E2, eB, eI, eL, eM, XPart.cells, QT _ Qc _ (fun _=>rfl), QT _ (XPart.cells true) _ (fun _=>rfl)]) : Wk F st st' := Wk.r1 m h
theorem wkI22 {F : Fx} {st st' : St} (m : Nat) (h : ((idQ m).map Prod.fst).Nodup ∧ ((idQ m).map Prod.snd).Nodup ∧ (∀ id, id < F.pins → look id (idQ m) = some id) ∧ (∀ p ∈ (idQ m), p.2 < st'.n) ∧ (∀ p ∈ st'.h, p.1 < st'.n) ∧ (∀ p ∈ st'.s, p.2 = rl (idQ m) (st.get p.1) ∨ p.2 = .bot) ∧ ∀ p ∈ st'.h, hhOk (idQ m) st.h p.1 p.2 := by simp [hP, hhOk, back, idQ, Cat.cells, SF.cells, UA, U1, IA, I1, LA, L1, BA, B1, EA, E1, E2, eB, eI, eL, eM, XPart.cells, QT _ Qc _ (fun _=>rfl), QT _ (XPart.cells true) _ (fun _=>rfl)]) : Wk F st st' := Wk.r1 (idQ m) h
@[simp] abbrev YJ (a:Cat) (b:List (AV)):List (AV):=iV a.n::.own 4 0 a.fr.length::.own 5 0 a.to.length::.own 6 0 a.id.length::.own 7 0 a.cs.length::b
@[simp] abbrev Y0 (a:Cat) (b:List Int × List (List (List Int)) × (List (List (ByteArray × Int)))) (c:List (List Int) × Int) (d:List (Nat × Ent)):List (Nat × Ent):=(3,.mix 7 [(YJ a [.own 8 0 b.1.length,.own 9 0 c.1.length])])::(4,rI a.fr)::(5,rI a.to)::(6,rI a.id)::(7,.row 1 (Ls a.cs))::(8,rI b.1)::(9,.row 1 (Ls c.1))::(10,.row 1 (Es eL b.2.1))::(11,.mix 1 (Es eM b.2.2))::d
@[simp] abbrev Y2 (a:List SF) (b:List (Nat × AV)):List (Nat × AV):=(0,.lst true 1 (Es Qg a))::(4,.adr 0 0 0)::(7,.rptr (SF.cells true (gx a 0)))::(8,.adr 1 0 0)::(9,.adr 3 0 0)::b
@[simp] abbrev Y9 (a:Cat) (b:List (Nat × Ent)):List (Nat × Ent):=(4,rI a.fr)::(5,rI a.to)::(6,rI a.id)::(7,.row 1 (Ls a.cs))::b
@[simp] abbrev Yb (a:List Int × List (List (List Int)) × (List (List (ByteArray × Int)))) (b:List (Nat × AV)):List (Nat × AV):=(10,.own 10 0 a.2.1.length)::(11,.own 11 0 a.2.2.length)::b
@[simp] abbrev Ye (a:List SF) (b:List (List Int) × Int) (c:List (Nat × AV)):List (Nat × AV):=(91,iV (((gx a 0).s.fr).length:Int))::(92,iV b.2)::c
@[simp] abbrev Yn (a:Cat) (b:List (Nat × Ent)):List (Nat × Ent):=(3,.mix 7 [(YJ a [nS,nS])])::b
@[simp] abbrev Yr (a:List SF) (b:List (Nat × AV)):List (Nat × AV):=(10,.own 8 0 ((qZ ((a.length:Int).toNat) ([]:List (List Int))).length))::b
@[simp] abbrev Ys (a:XPart) (b:List (Nat × Ent)):List (Nat × Ent):=(0,.mix 1 [[.fn 91 [.rptr [.fn 49 [.rptr (YM a [])]]]]])::(1,.mix 7 [(YP [])])::b
@[simp] abbrev Yt (a:List SF) (b:List (Nat × Ent)):List (Nat × Ent):=(8,.row 1 (Es eL (qZ ((a.length:Int).toNat) ([]:List (List Int)))))::b
@[simp] abbrev Yv (a:Cat) (b:List Int × List (List (List Int)) × (List (List (ByteArray × Int)))) (c:List (Nat × Ent)):List (Nat × Ent):=(3,.mix 7 [(YJ a [.own 8 0 b.1.length,nS])])::c
@[simp] abbrev Yx (a:List SF) (b:List (List Int) × Int) (c:List Int × Int) (d:List (Nat × Ent)):List (Nat × Ent):=(14,.ali 2 ((ix ((gx a 0).s.fr) b.2).toNat) 0 1)::(15,.ali 14 c.2.toNat 0 1)::d
@[simp] abbrev YD (a:List (List Int) × Int) (b:List Int × Int) (c:List (Nat × AV)):List (Nat × AV):=(15,iV a.2)::(16,.own 12 0 b.1.length)::c
@[simp] abbrev YG (a:List SF) (b:List (List Int) × Int) (c:List (Nat × Ent)):List (Nat × Ent):=(13,.ali 2 ((ix ((gx a 0).s.fr) b.2).toNat) 0 1)::c
theorem Q1e [Kd Tryz.prog] [Eo Tryz.prog] (list_:List SF) (at_0:XPart) (r:SF × List (List (List Int)) × Bool) (h:Qw list_ at_0=some r):Contract Tryz.prog 78 [.lst true 1 (Es Qg list_),.fn 91 [.rptr [.fn 49 [.rptr (YM at_0 [])]]]] (.tup [.agg (r.1.cells true),.lst true 1 (Es eL r.2.1),.val (.bool r.2.2)]):=by
 refine Qn (rvs:=[.cell 4 34,.tmp 5,.tmp 6]) (rs:=[.agg (r.1.cells true),.lst true 1 (Es eL r.2.1),.val (.bool r.2.2)]) Tryz.func78 rfl rfl rfl rfl (by simp [Tryz.f78]) fun F hN hP=>?_;unfold Qw at h;refine Q3 (runQ hN fun K hK=>?_);simp [eM,eL,eI,Q2,Qq,Qg,Cat.cells,SF.cells];repeat refine sdQ ?_
 refine hK _ ?_;clear hK K;refine tn (Qa (st':=⟨[(0,.lst true 1 (Es Qg list_)),(3,.adr 0 0 0),(4,.adr 1 0 0)],Ys at_0 [],2⟩) (QW [(0,0),(1,1)]) (Q3 (runQ hN fun K hK=>?_)));replace ⟨a1,h⟩:=Q5 h;simp [eM,eL,eI,Q2,Qq,Qg,Cat.cells,SF.cells,(show (Es Qg list_)[0]? = some (Qg (gx list_ 0)) from at_E (j:=0) a1)];repeat refine sdQ ?_
 refine hK _ ?_;clear hK K;refine tn (Qa (st':=⟨[(0,.lst true 1 (Es Qg list_)),(3,.adr 0 0 0),(4,.adr 1 0 0),(7,.rptr (SF.cells true (gx list_ 0)))],Ys at_0 [],2⟩) (QW [(0,0),(1,1)]) (Q3 (Q1R [31] mo (by rw [hN];decide) fun K hK=>?_)));replace ⟨a2,h⟩:=Q5 h;simp [eM,eL,eI,Q2,Qq,Qg,Cat.cells,SF.cells];repeat refine sdQ ?_
 refine hK _ ?_;clear hK K;refine tn (Qa (st':=⟨[(0,.lst true 1 (Es Qg list_)),(3,.adr 0 0 0),(4,.adr 1 0 0),(7,.rptr (SF.cells true (gx list_ 0))),(8,.adr 2 0 0)],Ys at_0 [(2,.mix 1 [[.own 3 0 ((qZ (((gx list_ 0).s.n).toNat) ([]:List (List Int))).length)]]),(3,.row 1 (Es eL (qZ (((gx list_ 0).s.n).toNat) ([]:List (List Int)))))],4⟩) (QW [(0,0),(1,1),(3,2),(2,3)]) (Q3 (w_runXM [] mo (by rw [hN];decide) fun K hK=>?_)));simp [eM,eL,eI,Q2,Qq,Qg,Cat.cells,SF.cells];repeat with_reducible refine sdQ ?_
 replace ⟨a4,h⟩:=Q5 h;replace ⟨a5,h⟩:=Q5 h;replace ⟨v3,hv3,h⟩:=bind_some h;replace ⟨a6,h⟩:=Q5 h;refine callX_in (fz:=[]) (eoT (e:=2) (Ln:=3) hv3 a4 (fun k y hy=>@Q25 (KdG Tryz.prog false) k _ y hy) ⟨_,Tryz.func91,rfl,by simp [Tryz.f91]⟩ (.field rfl (by simp [Cat.cells,SF.cells]) (.cons (.fnL (by simp) (.cons .rptr .nil)) .nil)) (by simp [Cat.cells,SF.cells,Qq,Qg]) (by simp) rfl rfl (by simpa using a5) (by simpa using a5) (by simp [Q67])) ?_;simp [eM,eL,eI,Q2,Qq,Qg,Cat.cells,SF.cells];repeat refine sdQ ?_
 refine hK _ ?_;clear hK K;refine tn (Qa (st':=⟨[(0,.lst true 1 (Es Qg list_)),(4,.adr 0 0 0),(7,.rptr (SF.cells true (gx list_ 0))),(8,.adr 1 0 0)],Y5 [(1,.mix 1 [[.own 2 0 v3.length]]),(2,.row 1 (Es eL v3))],3⟩) (Wk.r1 [(1,0),(2,1),(3,2)] (by simp [hP,hhOk,back,Cat.cells,SF.cells,UA,U1,IA,I1,LA,L1,BA,B1,EA,E1,E2,eB,eI,eL,eM,a6])) (Q3 (runQ hN fun K hK=>?_)));simp [eM,eL,eI,Q2,Qq,Qg,Cat.cells,SF.cells];repeat with_reducible refine sdQ ?_
 replace ⟨v7,hv7,h⟩:=bind_some h;refine Q0 (Q4N _ v7 hv7) (.cons (.preT (by simp [Cat.cells,SF.cells])) .nil) ?_;simp [eM,eL,eI,Q2,Qq,Qg,Cat.cells,SF.cells];repeat refine sdQ ?_
 refine hK _ ?_;clear hK K;refine tn (Qa (st':=⟨Y2 list_ [],Y5 ((1,.mix 1 [[.own 2 0 v3.length]])::(2,.row 1 (Es eL v3))::Yn v7 (Y9 v7 [])),8⟩) (Wk.r1 [(0,0),(1,1),(2,2),(8,3),(4,4),(5,5),(6,6),(7,7)] (by simp [hP,hhOk,back,Cat.cells,SF.cells,UA,U1,IA,I1,LA,L1,BA,B1,EA,E1,E2,eB,eI,eL,eM,a6])) (Q3 (Q1R [43] mo (by rw [hN];decide) fun K hK=>?_)));replace ⟨a8,h⟩:=Q5 h;simp [eM,eL,eI,Q2,Qq,Qg,Cat.cells,SF.cells];repeat refine sdQ ?_
 refine hK _ ?_;clear hK K;refine tn (Qa (st':=⟨Y2 list_ (Yr list_ []),Y5 ((1,.mix 1 [[.own 2 0 v3.length]])::(2,.row 1 (Es eL v3))::Yn v7 (Y9 v7 (Yt list_ []))),9⟩) (Wk.r1 [(0,0),(1,1),(2,2),(3,3),(4,4),(5,5),(6,6),(7,7),(8,8)] (by simp [hP,hhOk,back,Cat.cells,SF.cells,UA,U1,IA,I1,LA,L1,BA,B1,EA,E1,E2,eB,eI,eL,eM,a6])) (Q3 (runQ hN fun K hK=>?_)));simp [eM,eL,eI,Q2,Qq,Qg,Cat.cells,SF.cells];repeat refine sdQ ?_
 refine hK _ ?_;clear hK K;refine tn (Qa (st':=⟨Y2 list_ (Yr list_ [(11,.own 9 0 0)]),Y5 ((1,.mix 1 [[.own 2 0 v3.length]])::(2,.row 1 (Es eL v3))::Yn v7 (Y9 v7 (Yt list_ [(9,.mix 1 [])]))),10⟩) (Wk.r1 [(0,0),(1,1),(2,2),(3,3),(4,4),(5,5),(6,6),(7,7),(8,8),(9,9)] (by simp [hP,hhOk,back,Cat.cells,SF.cells,UA,U1,IA,I1,LA,L1,BA,B1,EA,E1,E2,eB,eI,eL,eM,a6])) (Q3 (Q3 (runQ hN fun K hK=>?_))));simp [eM,eL,eI,Q2,Qq,Qg,Cat.cells,SF.cells];repeat refine sdQ ?_
 refine hK _ (tn (Qa (st':=⟨Y2 list_ (Yr list_ [(11,.own 9 0 0),(45,.own 2 0 v3.length),(46,iV (v3.length:Int)),(47,iV 0)]),Y5 ((1,.mix 1 [[.own 2 0 v3.length]])::(2,.row 1 (Es eL v3))::Yn v7 (Y9 v7 (Yt list_ [(9,.mix 1 [])]))),10⟩) (Wk.r1 [(0,0),(1,1),(2,2),(3,3),(4,4),(5,5),(6,6),(7,7),(8,8),(9,9)] (by simp [hP,hhOk,back,Cat.cells,SF.cells,UA,U1,IA,I1,LA,L1,BA,B1,EA,E1,E2,eB,eI,eL,eM,a6])) ?_));clear hK K;replace ⟨e9,h,h9⟩:=bind_some h;refine QI (fun b9:List Int × List (List (List Int)) × (List (List (ByteArray × Int)))=>⟨Y2 list_ [(10,.own 9 0 b9.2.1.length),(11,.own 10 0 b9.2.2.length)],Y5 ((1,.mix 1 [[.own 2 0 v3.length]])::(2,.row 1 (Es eL v3))::Yv v7 b9 (Y9 v7 [(8,rI b9.1),(9,.row 1 (Es eL b9.2.1)),(10,.mix 1 (Es eM b9.2.2))])),11⟩) (fun b9=>b9=e9) ?_ ?_
 ·refine Q6 (QR h (fun s30:List Int × List (List (List Int)) × (List (List (ByteArray × Int))) × Int=>⟨Y2 list_ [(10,.own 9 0 s30.2.1.length),(11,.own 10 0 s30.2.2.1.length),(45,.own 2 0 v3.length),(46,iV (v3.length:Int)),(47,iV s30.2.2.2)],Y5 ((1,.mix 1 [[.own 2 0 v3.length]])::(2,.row 1 (Es eL v3))::(3,.mix 7 [(YJ v7 [.own 8 0 s30.1.length,nS])])::Y9 v7 [(8,rI s30.1),(9,.row 1 (Es eL s30.2.1)),(10,.mix 1 (Es eM s30.2.2.1))]),11⟩) (Q6e ⟨Y2 list_ (Yr list_ [(11,.own 9 0 0),(45,.own 2 0 v3.length),(46,iV (v3.length:Int)),(47,iV 0)]),Y5 ((1,.mix 1 [[.own 2 0 v3.length]])::(2,.row 1 (Es eL v3))::(3,.mix 7 [(YJ v7 [.own 10 0 0,nS])])::Y9 v7 (Yt list_ [(9,.mix 1 []),(10,rI [])])),11⟩ (Wk.nils [(10,1)] (by simp) (by simp) (by simp [nlA]) (by simp [entN,nlL,nlA,Cat.cells,SF.cells,UA,U1,IA,I1,LA,L1,BA,B1,EA,E1,E2,eB,eI,eL,eM,a6]) (by simp)) (Wk.r1 [(0,0),(1,1),(2,2),(3,3),(4,4),(5,5),(6,6),(7,7),(10,8),(8,9),(9,10)] (by simp [hP,hhOk,back,Cat.cells,SF.cells,UA,U1,IA,I1,LA,L1,BA,B1,EA,E1,E2,eB,eI,eL,eM,a6]))) ?_);clear h;intro k30 s30 c30 h hk30;refine Q3 (runQ hN fun K hK=>?_);simp [eM,eL,eI,Q2,Qq,Qg,Cat.cells,SF.cells];repeat refine sdQ ?_
  refine hK _ ?_;clear hK K;refine tn (Q3 (Q7 rfl (fun g=>?_) fun g=>?_))
  ·have g31:s30.2.2.2<(v3.length:Int):=gQ;clear g;replace h:=if_l g31 h;refine Q8 (tn (Q3 ?_));replace ⟨e32,h,h32⟩:=bind_some h;refine QI (fun b32:List (List (List Int)) × (List (List (ByteArray × Int)))=>⟨Y2 list_ [(10,.own 9 0 b32.1.length),(11,.own 10 0 b32.2.length),(45,.own 2 0 v3.length),(46,iV (v3.length:Int)),(47,iV s30.2.2.2)],Y5 ((1,.mix 1 [[.own 2 0 v3.length]])::(2,.row 1 (Es eL v3))::(3,.mix 7 [(YJ v7 [.own 8 0 ((s30.1++[((gx v3 s30.2.2.2).length:Int)]).length),nS])])::Y9 v7 [(8,rI (s30.1++[((gx v3 s30.2.2.2).length:Int)])),(9,.row 1 (Es eL b32.1)),(10,.mix 1 (Es eM b32.2))]),11⟩) (fun b32=>b32=e32) ?_ ?_
   ·refine Q6 (Q3 (runQ hN fun K hK=>?_));replace ⟨a33,h⟩:=Q5 h;simp [eM,eL,eI,Q2,Qq,Qg,Cat.cells,SF.cells,at_E (c:=eL) a33];(repeat refine sdQ ?_);refine hK _ ?_;clear hK K;refine tn (Qa (st':=⟨Y2 list_ [(10,.own 9 0 s30.2.1.length),(11,.own 10 0 s30.2.2.1.length),(13,.own 11 0 ((gx v3 s30.2.2.2).length)),(45,.own 2 0 v3.length),(46,iV (v3.length:Int)),(47,iV s30.2.2.2)],Y5 ((1,.mix 1 [[.own 2 0 v3.length]])::(2,.row 1 (Es eL v3))::(3,.mix 7 [(YJ v7 [.own 8 0 s30.1.length,nS])])::Y9 v7 [(8,rI s30.1),(9,.row 1 (Es eL s30.2.1)),(10,.mix 1 (Es eM s30.2.2.1)),(11,.ali 2 s30.2.2.2.toNat 0 1)]),12⟩) (Wk.r1 [(0,0),(1,1),(2,2),(3,3),(4,4),(5,5),(6,6),(7,7),(8,8),(9,9),(10,10),(11,11)] (by simp [hP,hhOk,back,Cat.cells,SF.cells,UA,U1,IA,I1,LA,L1,BA,B1,EA,E1,E2,eB,eI,eL,eM,a6])) (Q3 (runQ hN fun K hK=>?_)));replace ⟨a34,h⟩:=Q5 h;(try simp only [qK,qJ,zD] at a34);simp [eM,eL,eI,Q2,Qq,Qg,Cat.cells,SF.cells,at_E (c:=eL) a33,a34];(repeat refine sdQ ?_);refine hK _ ?_;clear hK K;refine tn (Qa (st':=⟨Y2 list_ [(10,.own 9 0 s30.2.1.length),(11,.own 10 0 s30.2.2.1.length),(13,.own 11 0 ((gx v3 s30.2.2.2).length)),(45,.own 2 0 v3.length),(46,iV (v3.length:Int)),(47,iV s30.2.2.2)],Y5 ((1,.mix 1 [[.own 2 0 v3.length]])::(2,.row 1 (Es eL v3))::(3,.mix 7 [(YJ v7 [.own 8 0 ((s30.1++[((gx v3 s30.2.2.2).length:Int)]).length),nS])])::Y9 v7 [(8,rI (s30.1++[((gx v3 s30.2.2.2).length:Int)])),(9,.row 1 (Es eL s30.2.1)),(10,.mix 1 (Es eM s30.2.2.1)),(11,.ali 2 s30.2.2.2.toNat 0 1)]),12⟩) (Wk.r1 [(0,0),(1,1),(2,2),(3,3),(4,4),(5,5),(6,6),(7,7),(13,8),(9,9),(10,10),(11,11)] (by simp [hP,hhOk,back,Cat.cells,SF.cells,UA,U1,IA,I1,LA,L1,BA,B1,EA,E1,E2,eB,eI,eL,eM,a6])) (Q3 (Q1R [62] mo (by rw [hN];decide) fun K hK=>?_)));simp [eM,eL,eI,Q2,Qq,Qg,Cat.cells,SF.cells];(repeat with_reducible refine sdQ ?_);replace ⟨v35,hv35,h⟩:=bind_some h;refine Q7a (fz:=[62]) false (Qax _ v35 hv35) (PurK.ofL (.cons (.whole (by simp [at_E (c:=eL) a33,eL]) (by simp) (by simp [at_E (c:=eL) a33,eL])) .nil)) ?_;replace ⟨a36,h⟩:=Q5 h;(try simp only [qK,qJ,zD] at a36);simp [eM,eL,eI,Q2,Qq,Qg,Cat.cells,SF.cells,a36];(repeat refine sdQ ?_);refine hK _ ?_;clear hK K
    refine tn (Qa (st':=⟨Y2 list_ [(10,.own 9 0 s30.2.1.length),(11,.own 10 0 ((s30.2.2.1++[v35]).length)),(13,.own 11 0 ((gx v3 s30.2.2.2).length)),(45,.own 2 0 v3.length),(46,iV (v3.length:Int)),(47,iV s30.2.2.2)],Y5 ((1,.mix 1 [[.own 2 0 v3.length]])::(2,.row 1 (Es eL v3))::(3,.mix 7 [(YJ v7 [.own 8 0 ((s30.1++[((gx v3 s30.2.2.2).length:Int)]).length),nS])])::Y9 v7 [(8,rI (s30.1++[((gx v3 s30.2.2.2).length:Int)])),(9,.row 1 (Es eL s30.2.1)),(10,.mix 1 (Es eM (s30.2.2.1++[v35]))),(11,.ali 2 s30.2.2.2.toNat 0 1)]),12⟩) (Wk.r1 [(0,0),(1,1),(2,2),(3,3),(4,4),(5,5),(6,6),(7,7),(8,8),(9,9),(13,10),(11,11)] (by simp [hP,hhOk,back,Cat.cells,SF.cells,UA,U1,IA,I1,LA,L1,BA,B1,EA,E1,E2,eB,eI,eL,eM,a6])) (Q3 (runQ hN fun K hK=>?_)));simp [eM,eL,eI,Q2,Qq,Qg,Cat.cells,SF.cells];(repeat refine sdQ ?_);refine hK _ (tn (Qa (st':=⟨Y2 list_ [(10,.own 9 0 s30.2.1.length),(11,.own 10 0 ((s30.2.2.1++[v35]).length)),(13,.own 11 0 ((gx v3 s30.2.2.2).length)),(45,.own 2 0 v3.length),(46,iV (v3.length:Int)),(47,iV s30.2.2.2),(64,iV (list_.length:Int)),(65,iV 0)],Y5 ((1,.mix 1 [[.own 2 0 v3.length]])::(2,.row 1 (Es eL v3))::(3,.mix 7 [(YJ v7 [.own 8 0 ((s30.1++[((gx v3 s30.2.2.2).length:Int)]).length),nS])])::Y9 v7 [(8,rI (s30.1++[((gx v3 s30.2.2.2).length:Int)])),(9,.row 1 (Es eL s30.2.1)),(10,.mix 1 (Es eM (s30.2.2.1++[v35]))),(11,.ali 2 s30.2.2.2.toNat 0 1)]),12⟩) (Wk.r1 [(0,0),(1,1),(2,2),(3,3),(4,4),(5,5),(6,6),(7,7),(8,8),(9,9),(10,10),(11,11)] (by simp [hP,hhOk,back,Cat.cells,SF.cells,UA,U1,IA,I1,LA,L1,BA,B1,EA,E1,E2,eB,eI,eL,eM,a6])) (Q6 ?_)));clear hK K;replace ⟨e43,he43,h43⟩:=bind_some h
    refine QR he43 (fun s43:List (List (List Int)) × Int=>⟨Y2 list_ [(10,.own 9 0 s43.1.length),(11,.own 10 0 ((s30.2.2.1++[v35]).length)),(13,.own 11 0 ((gx v3 s30.2.2.2).length)),(45,.own 2 0 v3.length),(46,iV (v3.length:Int)),(47,iV s30.2.2.2),(64,iV (list_.length:Int)),(65,iV s43.2)],Y5 ((1,.mix 1 [[.own 2 0 v3.length]])::(2,.row 1 (Es eL v3))::(3,.mix 7 [(YJ v7 [.own 8 0 ((s30.1++[((gx v3 s30.2.2.2).length:Int)]).length),nS])])::Y9 v7 [(8,rI (s30.1++[((gx v3 s30.2.2.2).length:Int)])),(9,.row 1 (Es eL s43.1)),(10,.mix 1 (Es eM (s30.2.2.1++[v35]))),(11,.ali 2 s30.2.2.2.toNat 0 1)]),12⟩) (Wk.r1 [(0,0),(1,1),(2,2),(3,3),(4,4),(5,5),(6,6),(7,7),(8,8),(9,9),(10,10),(11,11)] (by simp [hP,hhOk,back,Cat.cells,SF.cells,UA,U1,IA,I1,LA,L1,BA,B1,EA,E1,E2,eB,eI,eL,eM,a6])) ?_;intro k43 s43 c43 h hk43;refine Q3 (runQ hN fun K hK=>?_);simp [eM,eL,eI,Q2,Qq,Qg,Cat.cells,SF.cells];(repeat refine sdQ ?_);refine hK _ ?_;clear hK K;refine tn (Q3 (Q7 rfl (fun g=>?_) fun g=>?_))
    ·have g44:s43.2<(list_.length:Int):=gQ;clear g;replace h:=if_l g44 h;refine Q8 (tn (Q3 (Q6 (Q3 (runQ hN fun K hK=>?_)))));simp [eM,eL,eI,Q2,Qq,Qg,Cat.cells,SF.cells];(repeat refine sdQ ?_);refine hK _ ?_;clear hK K;refine tn (Qa (st':=⟨Y2 list_ [(10,.own 9 0 s43.1.length),(11,.own 10 0 ((s30.2.2.1++[v35]).length)),(13,.own 11 0 ((gx v3 s30.2.2.2).length)),(14,iV s43.2),(45,.own 2 0 v3.length),(46,iV (v3.length:Int)),(47,iV s30.2.2.2),(64,iV (list_.length:Int)),(65,iV s43.2)],Y5 ((1,.mix 1 [[.own 2 0 v3.length]])::(2,.row 1 (Es eL v3))::(3,.mix 7 [(YJ v7 [.own 8 0 ((s30.1++[((gx v3 s30.2.2.2).length:Int)]).length),nS])])::Y9 v7 [(8,rI (s30.1++[((gx v3 s30.2.2.2).length:Int)])),(9,.row 1 (Es eL s43.1)),(10,.mix 1 (Es eM (s30.2.2.1++[v35]))),(11,.ali 2 s30.2.2.2.toNat 0 1)]),12⟩) (Wk.r1 [(0,0),(1,1),(2,2),(3,3),(4,4),(5,5),(6,6),(7,7),(8,8),(9,9),(10,10),(11,11)] (by simp [hP,hhOk,back,Cat.cells,SF.cells,UA,U1,IA,I1,LA,L1,BA,B1,EA,E1,E2,eB,eI,eL,eM,a6])) (w_runXR false [] [116] mo (by rw [hN];decide) fun K hK=>?_));replace ⟨a45,h⟩:=Q5 h;simp [eM,eL,eI,Q2,Qq,Qg,Cat.cells,SF.cells,at_E (c:=eL) a45];(repeat with_reducible refine sdQ ?_);replace ⟨v46,hv46,h⟩:=bind_some h;refine Q2m (fz:=[]) (Qaw _ _ v46 hv46) (.cons (.whole (by simp [at_E (c:=eL) a33,eL]) (by simp) (by simp [at_E (c:=eL) a33,eL])) (.cons .val .nil)) ?_;replace ⟨a47,h⟩:=Q5 h;(try simp only [qK,qJ,zD] at a47);simp [eM,eL,eI,Q2,Qq,Qg,Cat.cells,SF.cells,at_E (c:=eL) a45,a47];(repeat with_reducible refine sdQ ?_);refine Qa5 (fz:=[]) (sem_apaE (es2:=Ls (gx s43.1 s43.2)) (es3:=Ls ((gx s43.1 s43.2)++[v46])) (news:=[[lI v46]]) (c2:=True) (d2:=[13]) rfl ef_23 tf_22 rfl (by decide) rfl (by simp) rfl rfl (by simp [src,Q17]) trivial (by first|(simp;done)|(simp;omega)|omega) (by decide) (by simp [at_E (c:=eL) a45,eL,eI]) (by simp;omega) (by simp;omega) (by simp) (by simp) (by simp) (by simp [eL,UA,U1,IA,I1,LA,L1,BA,B1,EA,E1,E2,eB,eI,eL,eM])) ?_;replace ⟨a48,h⟩:=Q5 h;simp [eM,eL,eI,Q2,Qq,Qg,Cat.cells,SF.cells,at_E (c:=eL) a45,at_E (c:=eL) a48];(repeat with_reducible refine sdQ ?_);refine stoX_rowK (fz:=[]) [] tf_23 rfl (b:=.lst true 1 (Ls ((gx s43.1 s43.2)++[v46]))) (ds:=[15]) (es2:=Es eL (s43.1.set s43.2.toNat ((gx s43.1 s43.2)++[v46]))) rfl (by simp) (by first|(simp;done)|(simp;omega)|omega) (by simp) (by simp) (by simp) rfl (holed_set (Es_st (fun _=>rfl) rfl)) ?_;simp [eM,eL,eI,Q2,Qq,Qg,Cat.cells,SF.cells,at_E (c:=eL) a45,at_E (c:=eL) a48]
     (repeat refine sdQ ?_);refine hK _ ?_;clear hK K;refine bn (tn (Qa (st':=⟨Y2 list_ [(10,.own 9 0 ((s43.1.set s43.2.toNat ((gx s43.1 s43.2)++[v46])).length)),(11,.own 10 0 ((s30.2.2.1++[v35]).length)),(13,.own 11 0 ((gx v3 s30.2.2.2).length)),(45,.own 2 0 v3.length),(46,iV (v3.length:Int)),(47,iV s30.2.2.2),(64,iV (list_.length:Int)),(65,iV s43.2)],Y5 ((1,.mix 1 [[.own 2 0 v3.length]])::(2,.row 1 (Es eL v3))::(3,.mix 7 [(YJ v7 [.own 8 0 ((s30.1++[((gx v3 s30.2.2.2).length:Int)]).length),nS])])::Y9 v7 [(8,rI (s30.1++[((gx v3 s30.2.2.2).length:Int)])),(9,.row 1 (Es eL (s43.1.set s43.2.toNat ((gx s43.1 s43.2)++[v46])))),(10,.mix 1 (Es eM (s30.2.2.1++[v35]))),(11,.ali 2 s30.2.2.2.toNat 0 1)]),12⟩) (Wk.r1 [(0,0),(1,1),(2,2),(3,3),(4,4),(5,5),(6,6),(7,7),(8,8),(9,9),(10,10),(11,11)] (by simp [hP,hhOk,back,Cat.cells,SF.cells,UA,U1,IA,I1,LA,L1,BA,B1,EA,E1,E2,eB,eI,eL,eM,a6])) (runQ hN fun K hK=>?_)));replace ⟨a49,h⟩:=Q5 h;simp [eM,eL,eI,Q2,Qq,Qg,Cat.cells,SF.cells,QB a49];(repeat refine sdQ ?_);refine hK _ ?_;clear hK K;cases h;exact rn (s':=(s43.1.set s43.2.toNat ((gx s43.1 s43.2)++[v46]),s43.2+1)) hk43 (Wk.r1 [(0,0),(1,1),(2,2),(3,3),(4,4),(5,5),(6,6),(7,7),(8,8),(9,9),(10,10),(11,11)] (by simp [hP,hhOk,back,Cat.cells,SF.cells,UA,U1,IA,I1,LA,L1,BA,B1,EA,E1,E2,eB,eI,eL,eM,a6]))
    have g44:¬ (s43.2<(list_.length:Int)):=gQ;clear g;replace h:=if_r g44 h;refine Qo (tx (lx (bh (bn ?_))));cases h;have q:_=e43:=hk43;have h:=h43;rw [← q] at h;clear q;(try dsimp only at h);exact jn (b:=(s43.1,s30.2.2.1++[v35])) (zH h) (Wk.r1 [(0,0),(1,1),(2,2),(3,3),(4,4),(5,5),(6,6),(7,7),(8,8),(9,9),(10,10)] (by simp [hP,hhOk,back,Cat.cells,SF.cells,UA,U1,IA,I1,LA,L1,BA,B1,EA,E1,E2,eB,eI,eL,eM,a6]))
   intro b32 hb32;have h:=h32;(try rw [← hb32] at h);clear h32;(try dsimp only at h);refine runQ hN fun K hK=>?_;replace ⟨a50,h⟩:=Q5 h;simp [eM,eL,eI,Q2,Qq,Qg,Cat.cells,SF.cells,QB a50];(repeat refine sdQ ?_);refine hK _ ?_;clear hK K;cases h;exact rn (s':=(s30.1++[((gx v3 s30.2.2.2).length:Int)],b32.1,b32.2,s30.2.2.2+1)) hk30 (Wk.r1 [(0,0),(1,1),(2,2),(3,3),(4,4),(5,5),(6,6),(7,7),(8,8),(9,9),(10,10)] (by simp [hP,hhOk,back,Cat.cells,SF.cells,UA,U1,IA,I1,LA,L1,BA,B1,EA,E1,E2,eB,eI,eL,eM,a6]))
  have g31:¬ (s30.2.2.2<(v3.length:Int)):=gQ;clear g;replace h:=if_r g31 h;refine Qo (tx (lx (bh ?_)));cases h;exact jn (b:=(s30.1,s30.2.1,s30.2.2.1)) hk30 (Wk.r1 [(0,0),(1,1),(2,2),(3,3),(4,4),(5,5),(6,6),(7,7),(8,8),(9,9),(10,10)] (by simp [hP,hhOk,back,Cat.cells,SF.cells,UA,U1,IA,I1,LA,L1,BA,B1,EA,E1,E2,eB,eI,eL,eM,a6]))
 intro b9 hb9;have h:=h9;try rw [← hb9] at h
 clear h9;try dsimp only at h
 refine Q3 (Q3 (runQ hN fun K hK=>?_));simp [eM,eL,eI,Q2,Qq,Qg,Cat.cells,SF.cells];repeat with_reducible refine sdQ ?_
 replace ⟨v51,hv51,h⟩:=bind_some h;refine Q0 (Q8O _ v51 hv51) (.cons .w .nil) ?_;simp [eM,eL,eI,Q2,Qq,Qg,Cat.cells,SF.cells];repeat refine sdQ ?_
 refine hK _ ?_;clear hK K;refine tn (Qa (st':=⟨Y2 list_ [(10,.own 9 0 b9.2.1.length),(11,.own 10 0 b9.2.2.length),(85,.val (.bool (!v51)))],Y5 ((1,.mix 1 [[.own 2 0 v3.length]])::(2,.row 1 (Es eL v3))::Yv v7 b9 (Y9 v7 [(8,rI b9.1),(9,.row 1 (Es eL b9.2.1)),(10,.mix 1 (Es eM b9.2.2))])),11⟩) (Wk.r1 [(0,0),(1,1),(2,2),(3,3),(4,4),(5,5),(6,6),(7,7),(8,8),(9,9),(10,10)] (by simp [hP,hhOk,back,Cat.cells,SF.cells,UA,U1,IA,I1,LA,L1,BA,B1,EA,E1,E2,eB,eI,eL,eM,a6])) (Q7 rfl (fun g=>?_) fun g=>?_))
 ·have g52:¬ (v51=true):=gQ;clear g;replace h:=if_l g52 h;refine Q3 (runQ hN fun K hK=>?_);simp [eM,eL,eI,Q2,Qq,Qg,Cat.cells,SF.cells];repeat refine sdQ ?_
  refine hK _ (tn (Qa (st':=⟨[(4,.adr 0 0 0),(5,nS),(6,.val (.bool false))],Y5 [],1⟩) (Wk.r1 [(0,0)] (by simp [hP,hhOk,back,Cat.cells,SF.cells,UA,U1,IA,I1,LA,L1,BA,B1,EA,E1,E2,eB,eI,eL,eM,a6])) (Qj (tr ?_))));clear hK K;have hr:=zH h;rw [← hr];refine ⟨_,(.cell Q7V rfl rfl rfl (by simp) (by simp) (.tmp (.tmp .nil))),?_⟩;refine ⟨(.agg rfl (.one rfl rfl (.one rfl rfl .nil))),[iV 0,nS,nS,nS,nS,nS,nS,nS,.val (.bool false)],[],by simp [Cat.cells,SF.cells,UA,U1,IA,I1,LA,L1,BA,B1,EA,E1,E2,eB,eI,eL,eM],by simp,(.cons .refl (.cons .nil (.cons .nil (.cons .nil (.cons .nil (.cons .nil (.cons .nil (.cons .nil (.cons .refl .nil)))))))))⟩
 have g52:¬ (¬ (v51=true)):=gQ;clear g;replace h:=if_r g52 h;refine Q8 (tn (Q3 (Q3 (runQ hN fun K hK=>?_))));simp [eM,eL,eI,Q2,Qq,Qg,Cat.cells,SF.cells];repeat refine sdQ ?_
 refine hK _ (tn (Qa (st':=⟨Y2 list_ [(10,.own 9 0 b9.2.1.length),(11,.own 10 0 b9.2.2.length),(91,iV (((gx list_ 0).s.fr).length:Int)),(92,iV 0)],Y5 ((1,.mix 1 [[.own 2 0 v3.length]])::(2,.row 1 (Es eL v3))::Yv v7 b9 (Y9 v7 [(8,rI b9.1),(9,.row 1 (Es eL b9.2.1)),(10,.mix 1 (Es eM b9.2.2))])),11⟩) (Wk.r1 [(0,0),(1,1),(2,2),(3,3),(4,4),(5,5),(6,6),(7,7),(8,8),(9,9),(10,10)] (by simp [hP,hhOk,back,Cat.cells,SF.cells,UA,U1,IA,I1,LA,L1,BA,B1,EA,E1,E2,eB,eI,eL,eM,a6])) ?_));clear hK K;replace ⟨e53,h,h53⟩:=bind_some h;refine QI (fun b53:List (List Int)=>⟨[(4,.adr 0 0 0),(9,.adr 1 0 0),(10,.own 8 0 b9.2.1.length)],Y5 [(1,.mix 7 [[iV v7.n,.own 2 0 v7.fr.length,.own 3 0 v7.to.length,.own 4 0 v7.id.length,.own 5 0 v7.cs.length,.own 6 0 b9.1.length,.own 7 0 b53.length]]),(2,rI v7.fr),(3,rI v7.to),(4,rI v7.id),(5,.row 1 (Ls v7.cs)),(6,rI b9.1),(7,.row 1 (Ls b53)),(8,.row 1 (Es eL b9.2.1))],9⟩) (fun b53=>b53=e53) ?_ ?_
 ·refine Q6 (QR h (fun s107:List (List Int) × Int=>⟨Y2 list_ (Yb b9 (Ye list_ s107 [])),Y5 ((1,.mix 1 [[.own 2 0 v3.length]])::(2,.row 1 (Es eL v3))::Y0 v7 b9 s107 []),12⟩) (Q6e ⟨Y2 list_ [(10,.own 9 0 b9.2.1.length),(11,.own 10 0 b9.2.2.length),(91,iV (((gx list_ 0).s.fr).length:Int)),(92,iV 0)],Y5 ((1,.mix 1 [[.own 2 0 v3.length]])::(2,.row 1 (Es eL v3))::(3,.mix 7 [(YJ v7 [.own 8 0 b9.1.length,.own 11 0 0])])::Y9 v7 [(8,rI b9.1),(9,.row 1 (Es eL b9.2.1)),(10,.mix 1 (Es eM b9.2.2)),(11,.row 1 (Ls []))]),12⟩ (Wk.nils [(11,1)] (by simp) (by simp) (by simp [nlA]) (by simp [Q5t,Q8a,Q8b,nlL,nlA,Cat.cells,SF.cells,UA,U1,IA,I1,LA,L1,BA,B1,EA,E1,E2,eB,eI,eL,eM,a6]) (by simp)) (Wk.r1 [(0,0),(1,1),(2,2),(3,3),(4,4),(5,5),(6,6),(7,7),(8,8),(11,9),(9,10),(10,11)] (by simp [hP,hhOk,back,Cat.cells,SF.cells,UA,U1,IA,I1,LA,L1,BA,B1,EA,E1,E2,eB,eI,eL,eM,a6]))) ?_);clear h;intro k107 s107 c107 h hk107;refine Q3 (runQ hN fun K hK=>?_);simp [eM,eL,eI,Q2,Qq,Qg,Cat.cells,SF.cells];repeat refine sdQ ?_
  refine hK _ ?_;clear hK K;refine tn (Q3 (Q7 rfl (fun g=>?_) fun g=>?_))
  ·have g108:s107.2<(((gx list_ 0).s.fr).length:Int):=gQ;clear g;replace h:=if_l g108 h;refine Q8 (tn (Q3 (Q6 (Q3 (runQ hN fun K hK=>?_)))));simp [eM,eL,eI,Q2,Qq,Qg,Cat.cells,SF.cells];(repeat refine sdQ ?_);refine hK _ ?_;clear hK K;refine tn (Qa (st':=⟨Y2 list_ (Yb b9 ((15,iV s107.2)::Ye list_ s107 [])),Y5 ((1,.mix 1 [[.own 2 0 v3.length]])::(2,.row 1 (Es eL v3))::Y0 v7 b9 s107 []),12⟩) (Wk.r1 [(0,0),(1,1),(2,2),(3,3),(4,4),(5,5),(6,6),(7,7),(8,8),(9,9),(10,10),(11,11)] (by simp [hP,hhOk,back,Cat.cells,SF.cells,UA,U1,IA,I1,LA,L1,BA,B1,EA,E1,E2,eB,eI,eL,eM,a6])) (Q3 (runQ hN fun K hK=>?_)));simp [eM,eL,eI,Q2,Qq,Qg,Cat.cells,SF.cells];(repeat refine sdQ ?_);refine hK _ ?_;clear hK K;refine tn (Qa (st':=⟨Y2 list_ (Yb b9 ((15,iV s107.2)::(16,.own 12 0 0)::Ye list_ s107 [])),Y5 ((1,.mix 1 [[.own 2 0 v3.length]])::(2,.row 1 (Es eL v3))::Y0 v7 b9 s107 [(12,.mix 1 [])]),13⟩) (Wk.r1 [(0,0),(1,1),(2,2),(3,3),(4,4),(5,5),(6,6),(7,7),(8,8),(9,9),(10,10),(11,11),(12,12)] (by simp [hP,hhOk,back,Cat.cells,SF.cells,UA,U1,IA,I1,LA,L1,BA,B1,EA,E1,E2,eB,eI,eL,eM,a6])) (Q3 (Q3 (runQ hN fun K hK=>?_))));replace ⟨a109,h⟩:=Q5 h;replace ⟨a110,h⟩:=Q5 h;simp [eM,eL,eI,Q2,Qq,Qg,Cat.cells,SF.cells,at_I a109,at_E (c:=eL) a110];(repeat refine sdQ ?_);refine hK _ (tn ?_);clear hK K
   refine Qa (st':=⟨Y2 list_ (Yb b9 ((15,iV s107.2)::(16,.own 12 0 0)::Ye list_ s107 [(105,.own 13 0 ((gx v3 (ix ((gx list_ 0).s.fr) s107.2)).length)),(106,iV ((gx v3 (ix ((gx list_ 0).s.fr) s107.2)).length:Int)),(107,iV 0)])),Y5 ((1,.mix 1 [[.own 2 0 v3.length]])::(2,.row 1 (Es eL v3))::Y0 v7 b9 s107 ((12,.mix 1 [])::YG list_ s107 [])),14⟩) (Wk.r1 [(0,0),(1,1),(2,2),(3,3),(4,4),(5,5),(6,6),(7,7),(8,8),(9,9),(10,10),(11,11),(12,12),(13,13)] (by simp [hP,hhOk,back,Cat.cells,SF.cells,UA,U1,IA,I1,LA,L1,BA,B1,EA,E1,E2,eB,eI,eL,eM,a6])) ?_;replace ⟨e111,h,h111⟩:=bind_some h;refine QI (fun b111:List Int=>⟨Y2 list_ (Yb b9 ((16,.own 12 0 b111.length)::Ye list_ s107 [])),Y5 ((1,.mix 1 [[.own 2 0 v3.length]])::(2,.row 1 (Es eL v3))::Y0 v7 b9 s107 [(12,rI b111)]),13⟩) (fun b111=>b111=e111) ?_ ?_
   ·refine Q6 (QR h (fun s135:List Int × Int=>⟨Y2 list_ (Yb b9 (YD s107 s135 (Ye list_ s107 [(105,.own 13 0 ((gx v3 (ix ((gx list_ 0).s.fr) s107.2)).length)),(106,iV ((gx v3 (ix ((gx list_ 0).s.fr) s107.2)).length:Int)),(107,iV s135.2)]))),Y5 ((1,.mix 1 [[.own 2 0 v3.length]])::(2,.row 1 (Es eL v3))::Y0 v7 b9 s107 ((12,rI s135.1)::YG list_ s107 [])),14⟩) (Q6e ⟨Y2 list_ (Yb b9 ((15,iV s107.2)::(16,.own 12 0 0)::Ye list_ s107 [(105,.own 13 0 ((gx v3 (ix ((gx list_ 0).s.fr) s107.2)).length)),(106,iV ((gx v3 (ix ((gx list_ 0).s.fr) s107.2)).length:Int)),(107,iV 0)])),Y5 ((1,.mix 1 [[.own 2 0 v3.length]])::(2,.row 1 (Es eL v3))::Y0 v7 b9 s107 ((12,rI [])::YG list_ s107 [])),14⟩ (Wk.nils [] (by simp) (by simp) (by simp [nlA]) (by simp [Q5t,Q8a,Q8b,nlL,nlA,Cat.cells,SF.cells,UA,U1,IA,I1,LA,L1,BA,B1,EA,E1,E2,eB,eI,eL,eM,a6]) (by simp)) (Wk.r1 [(0,0),(1,1),(2,2),(3,3),(4,4),(5,5),(6,6),(7,7),(8,8),(9,9),(10,10),(11,11),(12,12),(13,13)] (by simp [hP,hhOk,back,Cat.cells,SF.cells,UA,U1,IA,I1,LA,L1,BA,B1,EA,E1,E2,eB,eI,eL,eM,a6]))) ?_);clear h;intro k135 s135 c135 h hk135;refine Q3 (runQ hN fun K hK=>?_);simp [eM,eL,eI,Q2,Qq,Qg,Cat.cells,SF.cells];(repeat refine sdQ ?_);refine hK _ ?_;clear hK K;refine tn (Q3 (Q7 rfl (fun g=>?_) fun g=>?_))
    ·have g136:s135.2<((gx v3 (ix ((gx list_ 0).s.fr) s107.2)).length:Int):=gQ;clear g;replace h:=if_l g136 h;refine Q8 (tn (Q3 (Q6 (Q3 (runQ hN fun K hK=>?_)))));replace ⟨a137,h⟩:=Q5 h;simp [eM,eL,eI,Q2,Qq,Qg,Cat.cells,SF.cells,at_E (c:=eL) a110,at_L a137];(repeat refine sdQ ?_);refine hK _ ?_;clear hK K;refine tn (Qa (st':=⟨Y2 list_ (Yb b9 (YD s107 s135 ((18,.own 14 0 ((rx (gx v3 (ix ((gx list_ 0).s.fr) s107.2)) s135.2).length))::Ye list_ s107 [(105,.own 13 0 ((gx v3 (ix ((gx list_ 0).s.fr) s107.2)).length)),(106,iV ((gx v3 (ix ((gx list_ 0).s.fr) s107.2)).length:Int)),(107,iV s135.2)]))),Y5 ((1,.mix 1 [[.own 2 0 v3.length]])::(2,.row 1 (Es eL v3))::Y0 v7 b9 s107 ((12,rI s135.1)::YG list_ s107 [(14,.ali 13 s135.2.toNat 0 1)])),15⟩) (Wk.r1 [(0,0),(1,1),(2,2),(3,3),(4,4),(5,5),(6,6),(7,7),(8,8),(9,9),(10,10),(11,11),(12,12),(14,14),(13,13)] (by simp [hP,hhOk,back,Cat.cells,SF.cells,UA,U1,IA,I1,LA,L1,BA,B1,EA,E1,E2,eB,eI,eL,eM,a6])) (Q3 (runQ hN fun K hK=>?_)));simp [eM,eL,eI,Q2,Qq,Qg,Cat.cells,SF.cells];(repeat refine sdQ ?_);refine hK _ (tn ?_);clear hK K
     refine Qa (st':=⟨Y2 list_ (Yb b9 (YD s107 s135 ((18,.own 14 0 ((rx (gx v3 (ix ((gx list_ 0).s.fr) s107.2)) s135.2).length))::(19,.own 15 0 0)::Ye list_ s107 [(105,.own 13 0 ((gx v3 (ix ((gx list_ 0).s.fr) s107.2)).length)),(106,iV ((gx v3 (ix ((gx list_ 0).s.fr) s107.2)).length:Int)),(107,iV s135.2)]))),Y5 ((1,.mix 1 [[.own 2 0 v3.length]])::(2,.row 1 (Es eL v3))::Y0 v7 b9 s107 ((12,rI s135.1)::YG list_ s107 [(14,.ali 13 s135.2.toNat 0 1),(15,.mix 1 [])])),16⟩) (Wk.r1 [(0,0),(1,1),(2,2),(3,3),(4,4),(5,5),(6,6),(7,7),(8,8),(9,9),(10,10),(11,11),(12,12),(14,14),(13,13),(15,15)] (by simp [hP,hhOk,back,Cat.cells,SF.cells,UA,U1,IA,I1,LA,L1,BA,B1,EA,E1,E2,eB,eI,eL,eM,a6])) (Q3 (Q3 (runQ hN fun K hK=>?_)));simp [eM,eL,eI,Q2,Qq,Qg,Cat.cells,SF.cells,at_E (c:=eL) a110,at_L a137];(repeat refine sdQ ?_);refine hK _ (tn (Qa (st':=⟨Y2 list_ (Yb b9 (YD s107 s135 ((19,.own 13 0 0)::Ye list_ s107 [(105,.own 14 0 ((gx v3 (ix ((gx list_ 0).s.fr) s107.2)).length)),(106,iV ((gx v3 (ix ((gx list_ 0).s.fr) s107.2)).length:Int)),(107,iV s135.2),(112,.own 15 0 ((rx (gx v3 (ix ((gx list_ 0).s.fr) s107.2)) s135.2).length)),(113,iV ((rx (gx v3 (ix ((gx list_ 0).s.fr) s107.2)) s135.2).length:Int)),(114,iV 0)]))),Y5 ((1,.mix 1 [[.own 2 0 v3.length]])::(2,.row 1 (Es eL v3))::Y0 v7 b9 s107 ((12,rI s135.1)::(13,.mix 1 [])::Yx list_ s107 s135 [])),16⟩) (Wk.r1 [(0,0),(1,1),(2,2),(3,3),(4,4),(5,5),(6,6),(7,7),(8,8),(9,9),(10,10),(11,11),(12,12),(15,13),(13,14),(14,15)] (by simp [hP,hhOk,back,Cat.cells,SF.cells,UA,U1,IA,I1,LA,L1,BA,B1,EA,E1,E2,eB,eI,eL,eM,a6])) ?_));clear hK K;replace ⟨e138,h,h138⟩:=bind_some h
     refine QI (fun b138:List Int=>⟨Y2 list_ (Yb b9 (YD s107 s135 ((19,.own 13 0 b138.length)::Ye list_ s107 [(105,.own 14 0 ((gx v3 (ix ((gx list_ 0).s.fr) s107.2)).length)),(106,iV ((gx v3 (ix ((gx list_ 0).s.fr) s107.2)).length:Int)),(107,iV s135.2)]))),Y5 ((1,.mix 1 [[.own 2 0 v3.length]])::(2,.row 1 (Es eL v3))::Y0 v7 b9 s107 [(12,rI s135.1),(13,rI b138),(14,.ali 2 ((ix ((gx list_ 0).s.fr) s107.2).toNat) 0 1)]),15⟩) (fun b138=>b138=e138) ?_ ?_
     ·refine Q6 (QR h (fun s146:List Int × Int=>⟨Y2 list_ (Yb b9 (YD s107 s135 ((19,.own 13 0 s146.1.length)::Ye list_ s107 [(105,.own 14 0 ((gx v3 (ix ((gx list_ 0).s.fr) s107.2)).length)),(106,iV ((gx v3 (ix ((gx list_ 0).s.fr) s107.2)).length:Int)),(107,iV s135.2),(112,.own 15 0 ((rx (gx v3 (ix ((gx list_ 0).s.fr) s107.2)) s135.2).length)),(113,iV ((rx (gx v3 (ix ((gx list_ 0).s.fr) s107.2)) s135.2).length:Int)),(114,iV s146.2)]))),Y5 ((1,.mix 1 [[.own 2 0 v3.length]])::(2,.row 1 (Es eL v3))::Y0 v7 b9 s107 ((12,rI s135.1)::(13,rI s146.1)::Yx list_ s107 s135 [])),16⟩) (Q6e ⟨Y2 list_ (Yb b9 (YD s107 s135 ((19,.own 13 0 0)::Ye list_ s107 [(105,.own 14 0 ((gx v3 (ix ((gx list_ 0).s.fr) s107.2)).length)),(106,iV ((gx v3 (ix ((gx list_ 0).s.fr) s107.2)).length:Int)),(107,iV s135.2),(112,.own 15 0 ((rx (gx v3 (ix ((gx list_ 0).s.fr) s107.2)) s135.2).length)),(113,iV ((rx (gx v3 (ix ((gx list_ 0).s.fr) s107.2)) s135.2).length:Int)),(114,iV 0)]))),Y5 ((1,.mix 1 [[.own 2 0 v3.length]])::(2,.row 1 (Es eL v3))::Y0 v7 b9 s107 ((12,rI s135.1)::(13,rI [])::Yx list_ s107 s135 [])),16⟩ (Wk.nils [] (by simp) (by simp) (by simp [nlA]) (by simp [Q5t,Q8a,Q8b,nlL,nlA,Cat.cells,SF.cells,UA,U1,IA,I1,LA,L1,BA,B1,EA,E1,E2,eB,eI,eL,eM,a6]) (by simp)) (Wk.r1 [(0,0),(1,1),(2,2),(3,3),(4,4),(5,5),(6,6),(7,7),(8,8),(9,9),(10,10),(11,11),(12,12),(13,13),(14,14),(15,15)] (by simp [hP,hhOk,back,Cat.cells,SF.cells,UA,U1,IA,I1,LA,L1,BA,B1,EA,E1,E2,eB,eI,eL,eM,a6]))) ?_);clear h;intro k146 s146 c146 h hk146;refine Q3 (runQ hN fun K hK=>?_);simp [eM,eL,eI,Q2,Qq,Qg,Cat.cells,SF.cells];(repeat refine sdQ ?_);refine hK _ ?_;clear hK K;refine tn (Q3 (Q7 rfl (fun g=>?_) fun g=>?_))
      ·have g147:s146.2<((rx (gx v3 (ix ((gx list_ 0).s.fr) s107.2)) s135.2).length:Int):=gQ;clear g;replace h:=if_l g147 h;refine Q8 (tn (Q3 (Q6 (Q3 (runQ hN fun K hK=>?_)))));replace ⟨a148,h⟩:=Q5 h;simp [eM,eL,eI,Q2,Qq,Qg,Cat.cells,SF.cells,at_E (c:=eL) a110,at_L a137,at_I a148];(repeat refine sdQ ?_);refine hK _ ?_;clear hK K;refine tn (Qa (st':=⟨Y2 list_ (Yb b9 (YD s107 s135 ((19,.own 13 0 s146.1.length)::(20,iV s146.2)::(21,iV (ix (rx (gx v3 (ix ((gx list_ 0).s.fr) s107.2)) s135.2) s146.2))::Ye list_ s107 [(105,.own 14 0 ((gx v3 (ix ((gx list_ 0).s.fr) s107.2)).length)),(106,iV ((gx v3 (ix ((gx list_ 0).s.fr) s107.2)).length:Int)),(107,iV s135.2),(112,.own 15 0 ((rx (gx v3 (ix ((gx list_ 0).s.fr) s107.2)) s135.2).length)),(113,iV ((rx (gx v3 (ix ((gx list_ 0).s.fr) s107.2)) s135.2).length:Int)),(114,iV s146.2)]))),Y5 ((1,.mix 1 [[.own 2 0 v3.length]])::(2,.row 1 (Es eL v3))::Y0 v7 b9 s107 ((12,rI s135.1)::(13,rI s146.1)::Yx list_ s107 s135 [])),16⟩) (Wk.r1 [(0,0),(1,1),(2,2),(3,3),(4,4),(5,5),(6,6),(7,7),(8,8),(9,9),(10,10),(11,11),(12,12),(13,13),(14,14),(15,15)] (by simp [hP,hhOk,back,Cat.cells,SF.cells,UA,U1,IA,I1,LA,L1,BA,B1,EA,E1,E2,eB,eI,eL,eM,a6])) (runQ hN fun K hK=>?_));replace ⟨a149,h⟩:=Q5 h;replace ⟨a150,h⟩:=Q5 h;replace ⟨a151,h⟩:=Q5 h;replace ⟨a152,h⟩:=Q5 h;(try simp only [qK,qJ,zD] at a152);simp [eM,eL,eI,Q2,Qq,Qg,Cat.cells,SF.cells,at_E (c:=Qg) a149,at_L a150,at_I a151,a152];(repeat refine sdQ ?_);refine hK _ (bn (tn ?_));clear hK K
       refine Qa (st':=⟨Y2 list_ (Yb b9 (YD s107 s135 ((19,.own 13 0 ((s146.1++[ix (rx ((gx list_ s146.2).ac) s107.2) (ix (rx (gx v3 (ix ((gx list_ 0).s.fr) s107.2)) s135.2) s146.2)]).length))::Ye list_ s107 [(105,.own 14 0 ((gx v3 (ix ((gx list_ 0).s.fr) s107.2)).length)),(106,iV ((gx v3 (ix ((gx list_ 0).s.fr) s107.2)).length:Int)),(107,iV s135.2),(112,.own 15 0 ((rx (gx v3 (ix ((gx list_ 0).s.fr) s107.2)) s135.2).length)),(113,iV ((rx (gx v3 (ix ((gx list_ 0).s.fr) s107.2)) s135.2).length:Int)),(114,iV s146.2)]))),Y5 ((1,.mix 1 [[.own 2 0 v3.length]])::(2,.row 1 (Es eL v3))::Y0 v7 b9 s107 ((12,rI s135.1)::(13,rI (s146.1++[ix (rx ((gx list_ s146.2).ac) s107.2) (ix (rx (gx v3 (ix ((gx list_ 0).s.fr) s107.2)) s135.2) s146.2)]))::Yx list_ s107 s135 [])),16⟩) (Wk.r1 [(0,0),(1,1),(2,2),(3,3),(4,4),(5,5),(6,6),(7,7),(8,8),(9,9),(10,10),(11,11),(12,12),(17,13),(14,14),(15,15)] (by simp [hP,hhOk,back,Cat.cells,SF.cells,UA,U1,IA,I1,LA,L1,BA,B1,EA,E1,E2,eB,eI,eL,eM,a6])) (runQ hN fun K hK=>?_);replace ⟨a153,h⟩:=Q5 h;simp [eM,eL,eI,Q2,Qq,Qg,Cat.cells,SF.cells,QB a153];(repeat refine sdQ ?_);refine hK _ ?_;clear hK K;cases h;exact rn (s':=(s146.1++[ix (rx ((gx list_ s146.2).ac) s107.2) (ix (rx (gx v3 (ix ((gx list_ 0).s.fr) s107.2)) s135.2) s146.2)],s146.2+1)) hk146 (Wk.r1 [(0,0),(1,1),(2,2),(3,3),(4,4),(5,5),(6,6),(7,7),(8,8),(9,9),(10,10),(11,11),(12,12),(13,13),(14,14),(15,15)] (by simp [hP,hhOk,back,Cat.cells,SF.cells,UA,U1,IA,I1,LA,L1,BA,B1,EA,E1,E2,eB,eI,eL,eM,a6]))
      have g147:¬ (s146.2<((rx (gx v3 (ix ((gx list_ 0).s.fr) s107.2)) s135.2).length:Int)):=gQ;clear g;replace h:=if_r g147 h;refine Qo (tx (lx (bh ?_)));cases h;exact jn (b:=s146.1) hk146 (Wk.r1 [(0,0),(1,1),(2,2),(3,3),(4,4),(5,5),(6,6),(7,7),(8,8),(9,9),(10,10),(11,11),(12,12),(13,13),(14,14)] (by simp [hP,hhOk,back,Cat.cells,SF.cells,UA,U1,IA,I1,LA,L1,BA,B1,EA,E1,E2,eB,eI,eL,eM,a6]))
     intro b138 hb138;have h:=h138;(try rw [← hb138] at h);clear h138;(try dsimp only at h);refine Q1R [] mo (by rw [hN];decide) fun K hK=>?_;replace ⟨a154,h⟩:=Q5 h;replace ⟨a155,h⟩:=Q5 h;simp [eM,eL,eI,Q2,Qq,Qg,Cat.cells,SF.cells,at_I a154,at_E (c:=eM) a155];(repeat with_reducible refine sdQ ?_);replace ⟨v156,hv156,h⟩:=bind_some h;refine Q2m (fz:=[]) (w_i_key _ v156 hv156) (.cons (.lits (es:=_) rfl (.cons rfl (.cons .w .nil) .nil) rfl) .nil) ?_;replace ⟨a157,h⟩:=Q5 h;(try simp only [qK,qJ,zD] at a157);simp [eM,eL,eI,Q2,Qq,Qg,Cat.cells,SF.cells,at_I a154,at_E (c:=eM) a155,a157];(repeat refine sdQ ?_);refine hK _ ?_;clear hK K;refine bn (tn (Qa (st':=⟨Y2 list_ (Yb b9 ((15,iV s107.2)::(16,.own 12 0 ((s135.1++[(Q2z v156 (gx b9.2.2 (ix ((gx list_ 0).s.to) s107.2))).getD 0]).length))::Ye list_ s107 [(105,.own 13 0 ((gx v3 (ix ((gx list_ 0).s.fr) s107.2)).length)),(106,iV ((gx v3 (ix ((gx list_ 0).s.fr) s107.2)).length:Int)),(107,iV s135.2)])),Y5 ((1,.mix 1 [[.own 2 0 v3.length]])::(2,.row 1 (Es eL v3))::Y0 v7 b9 s107 ((12,rI (s135.1++[(Q2z v156 (gx b9.2.2 (ix ((gx list_ 0).s.to) s107.2))).getD 0]))::YG list_ s107 [])),14⟩) (Wk.r1 [(0,0),(1,1),(2,2),(3,3),(4,4),(5,5),(6,6),(7,7),(8,8),(9,9),(10,10),(11,11),(18,12),(14,13)] (by simp [hP,hhOk,back,Cat.cells,SF.cells,UA,U1,IA,I1,LA,L1,BA,B1,EA,E1,E2,eB,eI,eL,eM,a6])) (runQ hN fun K hK=>?_)));replace ⟨a158,h⟩:=Q5 h;simp [eM,eL,eI,Q2,Qq,Qg,Cat.cells,SF.cells,QB a158];(repeat refine sdQ ?_);refine hK _ ?_;clear hK K;cases h;exact rn (s':=(s135.1++[(Q2z v156 (gx b9.2.2 (ix ((gx list_ 0).s.to) s107.2))).getD 0],s135.2+1)) hk135 (Wk.r1 [(0,0),(1,1),(2,2),(3,3),(4,4),(5,5),(6,6),(7,7),(8,8),(9,9),(10,10),(11,11),(12,12),(13,13)] (by simp [hP,hhOk,back,Cat.cells,SF.cells,UA,U1,IA,I1,LA,L1,BA,B1,EA,E1,E2,eB,eI,eL,eM,a6]))
    have g136:¬ (s135.2<((gx v3 (ix ((gx list_ 0).s.fr) s107.2)).length:Int)):=gQ;clear g;replace h:=if_r g136 h;refine Qo (tx (lx (bh ?_)));cases h;exact jn (b:=s135.1) hk135 (Wk.r1 [(0,0),(1,1),(2,2),(3,3),(4,4),(5,5),(6,6),(7,7),(8,8),(9,9),(10,10),(11,11),(12,12)] (by simp [hP,hhOk,back,Cat.cells,SF.cells,UA,U1,IA,I1,LA,L1,BA,B1,EA,E1,E2,eB,eI,eL,eM,a6]))
   intro b111 hb111;have h:=h111;(try rw [← hb111] at h);clear h111;(try dsimp only at h);refine runQ hN fun K hK=>?_;replace ⟨a159,h⟩:=Q5 h;(try simp only [qK,qJ,zD] at a159);simp [eM,eL,eI,Q2,Qq,Qg,Cat.cells,SF.cells,a159];(repeat refine sdQ ?_);refine hK _ ?_;clear hK K;refine bn (tn (Qa (st':=⟨Y2 list_ (Yb b9 (Ye list_ s107 [])),Y5 ((1,.mix 1 [[.own 2 0 v3.length]])::(2,.row 1 (Es eL v3))::(3,.mix 7 [(YJ v7 [.own 8 0 b9.1.length,.own 9 0 ((s107.1++[b111]).length)])])::Y9 v7 [(8,rI b9.1),(9,.row 1 (Ls (s107.1++[b111]))),(10,.row 1 (Es eL b9.2.1)),(11,.mix 1 (Es eM b9.2.2))]),12⟩) (Wk.r1 [(0,0),(1,1),(2,2),(3,3),(4,4),(5,5),(6,6),(7,7),(8,8),(14,9),(10,10),(11,11)] (by simp [hP,hhOk,back,Cat.cells,SF.cells,UA,U1,IA,I1,LA,L1,BA,B1,EA,E1,E2,eB,eI,eL,eM,a6])) (runQ hN fun K hK=>?_)));replace ⟨a160,h⟩:=Q5 h;simp [eM,eL,eI,Q2,Qq,Qg,Cat.cells,SF.cells,QB a160];(repeat refine sdQ ?_);refine hK _ ?_;clear hK K;cases h;exact rn (s':=(s107.1++[b111],s107.2+1)) hk107 (Wk.r1 [(0,0),(1,1),(2,2),(3,3),(4,4),(5,5),(6,6),(7,7),(8,8),(9,9),(10,10),(11,11)] (by simp [hP,hhOk,back,Cat.cells,SF.cells,UA,U1,IA,I1,LA,L1,BA,B1,EA,E1,E2,eB,eI,eL,eM,a6]))
  have g108:¬ (s107.2<(((gx list_ 0).s.fr).length:Int)):=gQ;clear g;replace h:=if_r g108 h;refine Qo (tx (lx (bh ?_)));cases h;exact jn (b:=s107.1) hk107 (Wk.r1 [(0,0),(3,1),(4,2),(5,3),(6,4),(7,5),(8,6),(9,7),(10,8)] (by simp [hP,hhOk,back,Cat.cells,SF.cells,UA,U1,IA,I1,LA,L1,BA,B1,EA,E1,E2,eB,eI,eL,eM,a6]))
 intro b53 hb53;have h:=h53;try rw [← hb53] at h
 clear h53;try dsimp only at h
 refine Q3 (runQ hN fun K hK=>?_);simp [eM,eL,eI,Q2,Qq,Qg,Cat.cells,SF.cells];repeat refine sdQ ?_
 refine hK _ (tn (Qa (st':=⟨[(4,.adr 0 0 0),(5,.own 7 0 b9.2.1.length),(6,.val (.bool true))],[(0,.mix 7 [[iV v7.n,.own 1 0 v7.fr.length,.own 2 0 v7.to.length,.own 3 0 v7.id.length,.own 4 0 v7.cs.length,.own 5 0 b9.1.length,.own 6 0 b53.length]]),(1,rI v7.fr),(2,rI v7.to),(3,rI v7.id),(4,.row 1 (Ls v7.cs)),(5,rI b9.1),(6,.row 1 (Ls b53)),(7,.row 1 (Es eL b9.2.1))],8⟩) (Wk.r1 [(0,0),(2,1),(3,2),(4,3),(5,4),(6,5),(7,6),(8,7)] (by simp [hP,hhOk,back,Cat.cells,SF.cells,UA,U1,IA,I1,LA,L1,BA,B1,EA,E1,E2,eB,eI,eL,eM,a6])) (Qj ?_)));clear hK K;have hr:=zH h;rw [← hr];refine ⟨_,(.cell Q7V rfl rfl rfl (by simp) (by simp) (.tmp (.tmp .nil))),?_⟩;refine ⟨(.agg rfl (.one rfl rfl (.one rfl rfl .nil))),[iV v7.n,lI v7.fr,lI v7.to,lI v7.id,.lst true 1 (Ls v7.cs),lI b9.1,.lst true 1 (Ls b53),.lst true 1 (Es eL b9.2.1),.val (.bool true)],[1,2,3,4,5,6,7],by simp [Cat.cells,SF.cells,UA,U1,IA,I1,LA,L1,BA,B1,EA,E1,E2,eB,eI,eL,eM],by simp,(UpL.refl _)⟩
attribute [local simp] unk unA unE unT unC flat Qc XPart.cells
noncomputable def Qt (f_:SF) (keep_0:XPart):Option (SF × List (List Int)) :=
 (Qw [f_] keep_0).bind fun v1 =>
 ass ((0:Int)≤0∧0<(v1.2.1.length:Int)) <|
 some (v1.1,gx v1.2.1 0)
@[simp] abbrev YO (a:SF × List (List (List Int)) × Bool) (b:List (AV)):List (AV):=iV a.1.s.n::.own 2 0 a.1.s.fr.length::.own 3 0 a.1.s.to.length::.own 4 0 a.1.s.id.length::.own 5 0 a.1.s.cs.length::.own 6 0 a.1.sz.length::.own 7 0 a.1.ac.length::b
theorem Q1d [Kd Tryz.prog] [Eo Tryz.prog] (f_:SF) (keep_0:XPart) (r:SF × List (List Int)) (h:Qt f_ keep_0=some r):Contract Tryz.prog 48 [.rptr (f_.cells true),.fn 49 [.rptr (YM keep_0 [])]] (.tup [.agg (r.1.cells true),.lst true 1 (Ls r.2)]):=by
 refine Qn (rvs:=[.cell 4 34,.tmp 5]) (rs:=[.agg (r.1.cells true),.lst true 1 (Ls r.2)]) Tryz.func48 rfl rfl rfl rfl (by simp [Tryz.f48]) fun F hN hP=>?_;unfold Qt at h;refine Q3 (runQ hN fun K hK=>?_);simp [eM,eL,eI,Q2,Qg,Qc,SF.cells,XPart.cells];repeat refine sdQ ?_
 refine hK _ ?_;clear hK K;refine tn (Qa (st':=⟨Yf f_ [(4,.adr 1 0 0)],[(0,.mix 1 [[.fn 49 [.rptr (YM keep_0 [])]]]),(1,.mix 7 [(YP [])])],2⟩) (QW [(0,0),(1,1)]) (Q3 (Q1R [] mo (by rw [hN];decide) fun K hK=>?_)));simp [eM,eL,eI,Q2,Qg,Qc,SF.cells,XPart.cells];repeat with_reducible refine sdQ ?_
 replace ⟨v1,hv1,h⟩:=bind_some h;refine Q2m (fz:=[]) (Q1e _ _ v1 hv1) (.cons (.lits (es:=_) rfl (.cons rfl (.cons (.preT (by simp [SF.cells,XPart.cells])) .nil) .nil) rfl) (.cons (.fnL (by simp) (.cons (.field rfl (by simp [SF.cells,XPart.cells]) (.cons (.fnL (by simp) (.cons .rptr .nil)) .nil)) .nil)) .nil)) ?_;simp [eM,eL,eI,Q2,Qg,Qc,SF.cells,XPart.cells];repeat refine sdQ ?_
 refine hK _ ?_;clear hK K;refine tn (Qa (st':=⟨[(4,.adr 0 0 0),(6,.adr 1 0 0),(7,.own 8 0 v1.2.1.length)],Y5 [(1,.mix 7 [(YO v1 [])]),(2,rI v1.1.s.fr),(3,rI v1.1.s.to),(4,rI v1.1.s.id),(5,.row 1 (Ls v1.1.s.cs)),(6,rI v1.1.sz),(7,.row 1 (Ls v1.1.ac)),(8,.row 1 (Es eL v1.2.1))],9⟩) (QW [(1,0),(12,1),(4,2),(5,3),(6,4),(7,5),(8,6),(9,7),(10,8)]) (Q3 (w_runXD [] [4] mo (by rw [hN];decide) (by rfl) fun K hK=>?_)));replace ⟨a2,h⟩:=Q5 h;simp [eM,eL,eI,Q2,Qg,Qc,SF.cells,XPart.cells,(show (Es eL v1.2.1)[0]? = some (eL (gx v1.2.1 0)) from at_E (j:=0) a2)];repeat refine sdQ ?_
 refine hK _ (tn (Qa (st':=⟨[(4,.adr 0 0 0),(5,.own 9 0 ((gx v1.2.1 0).length))],[(0,.mix 7 [(YO v1 [])]),(2,rI v1.1.s.fr),(3,rI v1.1.s.to),(4,rI v1.1.s.id),(5,.row 1 (Ls v1.1.s.cs)),(6,rI v1.1.sz),(7,.row 1 (Ls v1.1.ac)),(9,.row 1 (Ls (gx v1.2.1 0)))],10⟩) (Wk.pick (p:=8) (j:=9) (i:=0) (k:=0) (es2:=Ls (gx v1.2.1 0)) rfl rfl (by first|(simp;done)|(simp;omega)) (by decide) (by first|(simp [(show (Es eL v1.2.1)[0]? = some (eL (gx v1.2.1 0)) from at_E (j:=0) a2),SF.cells,XPart.cells];done)|(simp [eL,eI,(show (Es eL v1.2.1)[0]? = some (eL (gx v1.2.1 0)) from at_E (j:=0) a2),SF.cells,XPart.cells];done)) (by simp) rfl (by simp)) (Qa (st':=⟨[(4,.adr 0 0 0),(5,.own 7 0 ((gx v1.2.1 0).length))],[(0,.mix 7 [[iV v1.1.s.n,.own 1 0 v1.1.s.fr.length,.own 2 0 v1.1.s.to.length,.own 3 0 v1.1.s.id.length,.own 4 0 v1.1.s.cs.length,.own 5 0 v1.1.sz.length,.own 6 0 v1.1.ac.length]]),(1,rI v1.1.s.fr),(2,rI v1.1.s.to),(3,rI v1.1.s.id),(4,.row 1 (Ls v1.1.s.cs)),(5,rI v1.1.sz),(6,.row 1 (Ls v1.1.ac)),(7,.row 1 (Ls (gx v1.2.1 0)))],8⟩) (QW [(0,0),(2,1),(3,2),(4,3),(5,4),(6,5),(7,6),(9,7)]) (Qj ?_))));clear hK K;have hr:=zH h;rw [← hr];refine ⟨_,(.cell Q7V rfl rfl rfl (by simp) (by simp) (.tmp .nil)),?_⟩;refine ⟨(.agg rfl (.one rfl rfl .nil)),[iV v1.1.s.n,lI v1.1.s.fr,lI v1.1.s.to,lI v1.1.s.id,.lst true 1 (Ls v1.1.s.cs),lI v1.1.sz,.lst true 1 (Ls v1.1.ac),.lst true 1 (Ls (gx v1.2.1 0))],[1,2,3,4,5,6,7],by simp [SF.cells,XPart.cells,UA,U1,IA,I1,LA,L1,BA,B1,EA,E1,E2,eB,eI,eL,QT _ Qc _ (fun _=>rfl),eM],by simp,(UpL.refl _)⟩
attribute [local simp] unk unA unE unT unC flat Qc XPart.cells
noncomputable def Q1E (f_:SF) (list_:List XPart):Option Bool :=
 (Qx f_).bind fun v1 =>
 if ¬ (v1=true) then
  some false
 else
  (QM (σ:=Int) (ε:=Unit ⊕ Bool) (fun s9 =>
   if s9<(list_.length:Int) then
    ass (0≤s9∧s9<(list_.length:Int)) <|
    (QK f_ (gx list_ s9)).bind fun v12 =>
    if ¬ (v12=true) then
     some (Ctl.ret (Sum.inr false))
    else
     ass (B64 (s9+1)) <|
     some (Ctl.next (s9+1))
   else
    some (Ctl.ret (Sum.inl ()))) fuel 0).bind fun e3 =>
  match e3 with
  | .inl b3 =>
   some true
  | .inr p3 =>
   some p3
@[simp] abbrev Yy (a:List XPart) (b:List (Nat × AV)):List (Nat × AV):=(10,.lst true 1 (Es (XPart.cells true) a))::(11,iV (a.length:Int))::b
theorem Q7X [Kd Tryz.prog] (f_:SF) (list_:List XPart) (r:Bool) (h:Q1E f_ list_=some r):Contract Tryz.prog 47 [.rptr (f_.cells true),.lst true 1 (Es (XPart.cells true) list_)] (.val (.bool r)):=by
 refine Qn (rvs:=[.tmp 4]) (rs:=[.val (.bool r)]) Tryz.func47 rfl rfl rfl rfl (by simp [Tryz.f47]) fun F hN hP=>?_;unfold Q1E at h;refine Q3 (runQ hN fun K hK=>?_);simp [eM,eL,eI,Q2,Qg,Qc,SF.cells,XPart.cells];repeat refine sdQ ?_
 refine hK _ ?_;clear hK K;refine tn (Qa (st':=⟨[(0,.rptr (SF.cells true f_)),(1,.lst true 1 (Es (XPart.cells true) list_))],[],0⟩) (QW []) (Q3 (Q3 (runQ hN fun K hK=>?_))));simp [eM,eL,eI,Q2,Qg,Qc,SF.cells,XPart.cells];repeat with_reducible refine sdQ ?_
 replace ⟨v1,hv1,h⟩:=bind_some h;refine Q0 (Q2x _ v1 hv1) (.cons (.preT (by simp [SF.cells,XPart.cells])) .nil) ?_;simp [eM,eL,eI,Q2,Qg,Qc,SF.cells,XPart.cells];repeat refine sdQ ?_
 refine hK _ ?_;clear hK K;refine tn (Qa (st':=⟨[(0,.rptr (SF.cells true f_)),(1,.lst true 1 (Es (XPart.cells true) list_)),(9,.val (.bool (!v1)))],[],0⟩) (QW []) (Q7 rfl (fun g=>?_) fun g=>?_))
 ·have g2:¬ (v1=true):=gQ;clear g;replace h:=if_l g2 h;refine Q3 (runQ hN fun K hK=>?_);simp [eM,eL,eI,Q2,Qg,Qc,SF.cells,XPart.cells];repeat refine sdQ ?_
  refine hK _ (tn (Qa (st':=⟨YF [],[],0⟩) (QW []) (Qj (tr ?_))));clear hK K;have hr:=zH h;rw [← hr];refine ⟨_,(.tmp .nil),?_⟩;refine ⟨(.one rfl rfl .nil),[.val (.bool false)],[],by simp [SF.cells,XPart.cells,UA,U1,IA,I1,LA,L1,BA,B1,EA,E1,E2,eB,eI,eL,QT _ Qc _ (fun _=>rfl),QT _ (XPart.cells true) _ (fun _=>rfl),eM],by simp,(UpL.refl _)⟩
 have g2:¬ (¬ (v1=true)):=gQ;clear g;replace h:=if_r g2 h;refine Q8 (tn (Q3 (Q3 (runQ hN fun K hK=>?_))));simp [eM,eL,eI,Q2,Qg,Qc,SF.cells,XPart.cells];repeat refine sdQ ?_
 refine hK _ (tn (Qa (st':=⟨(0,.rptr (SF.cells true f_))::Yy list_ [(12,iV 0)],[],0⟩) (QW []) ?_));clear hK K;replace ⟨e3,h,h3⟩:=bind_some h;refine QI (fun b3:Unit=>⟨[],[],0⟩) (fun b3=>Sum.inl b3=e3) ?_ ?_
 ·refine Q6 (QR h (fun s9:Int=>⟨(0,.rptr (SF.cells true f_))::Yy list_ [(12,iV s9)],[],0⟩) (QW []) ?_);clear h;intro k9 s9 c9 h hk9;refine Q3 (runQ hN fun K hK=>?_);simp [eM,eL,eI,Q2,Qg,Qc,SF.cells,XPart.cells];repeat refine sdQ ?_
  refine hK _ ?_;clear hK K;refine tn (Q3 (Q7 rfl (fun g=>?_) fun g=>?_))
  ·have g10:s9<(list_.length:Int):=gQ;clear g;replace h:=if_l g10 h;refine Q8 (tn (Q3 (Q6 (Q3 (runQ hN fun K hK=>?_)))));replace ⟨a11,h⟩:=Q5 h;simp [eM,eL,eI,Q2,Qg,Qc,SF.cells,XPart.cells,at_E (c:=(XPart.cells true)) a11];(repeat refine sdQ ?_);refine hK _ ?_;clear hK K;refine tn (Qa (st':=⟨(0,.rptr (SF.cells true f_))::(6,.adr 0 0 0)::Yy list_ [(12,iV s9)],[(0,.mix 1 [[.lst true 1 (Ls ((gx list_ s9).members_))]])],1⟩) (QW [(0,0)]) (Q3 (runQ hN fun K hK=>?_)));simp [eM,eL,eI,Q2,Qg,Qc,SF.cells,XPart.cells];(repeat with_reducible refine sdQ ?_);replace ⟨v12,hv12,h⟩:=bind_some h;refine Q0 (Q3y _ _ v12 hv12) (.cons (.preT (by simp [SF.cells,XPart.cells])) (.cons (.aggL (.cons .lst .nil)) .nil)) ?_;simp [eM,eL,eI,Q2,Qg,Qc,SF.cells,XPart.cells];(repeat refine sdQ ?_);refine hK _ ?_;clear hK K;refine tn (Qa (st':=⟨(0,.rptr (SF.cells true f_))::Yy list_ [(12,iV s9),(19,.val (.bool (!v12)))],[],0⟩) (QW []) (Q7 rfl (fun g=>?_) fun g=>?_))
   ·have g13:¬ (v12=true):=gQ;clear g;replace h:=if_l g13 h;refine Q3 (runQ hN fun K hK=>?_);simp [eM,eL,eI,Q2,Qg,Qc,SF.cells,XPart.cells];(repeat refine sdQ ?_);refine hK _ (tn (Qa (st':=⟨YF [],[],0⟩) (QW []) (Qj (br (tr (lr (br (tr ?_))))))));clear hK K;cases h;have q:_=e3:=hk9;have h:=h3;rw [← q] at h;clear q;(try dsimp only at h);have hr:=zH h;rw [← hr];refine ⟨_,(.tmp .nil),?_⟩;refine ⟨(.one rfl rfl .nil),[.val (.bool false)],[],by simp [SF.cells,XPart.cells,UA,U1,IA,I1,LA,L1,BA,B1,EA,E1,E2,eB,eI,eL,QT _ Qc _ (fun _=>rfl),QT _ (XPart.cells true) _ (fun _=>rfl),eM],by simp,(UpL.refl _)⟩
   have g13:¬ (¬ (v12=true)):=gQ;clear g;replace h:=if_r g13 h;refine Q8 (bn (tn (runQ hN fun K hK=>?_)));replace ⟨a14,h⟩:=Q5 h;simp [eM,eL,eI,Q2,Qg,Qc,SF.cells,XPart.cells,QB a14];(repeat refine sdQ ?_);refine hK _ ?_;clear hK K;cases h;exact rn (s':=s9+1) hk9 (QW [])
  have g10:¬ (s9<(list_.length:Int)):=gQ;clear g;replace h:=if_r g10 h;refine Qo (tx (lx (bh ?_)));cases h;exact jn (b:=()) hk9 (QW [])
 intro b3 hb3;have h:=h3;try rw [← hb3] at h
 clear h3;try dsimp only at h
 refine Q3 (runQ hN fun K hK=>?_);simp [eM,eL,eI,Q2,Qg,Qc,SF.cells,XPart.cells];repeat refine sdQ ?_
 refine hK _ (tn (Qa (st':=⟨[(4,.val (.bool true))],[],0⟩) (QW []) (Qj ?_)));clear hK K;have hr:=zH h;rw [← hr];refine ⟨_,(.tmp .nil),?_⟩;refine ⟨(.one rfl rfl .nil),[.val (.bool true)],[],by simp [SF.cells,XPart.cells,UA,U1,IA,I1,LA,L1,BA,B1,EA,E1,E2,eB,eI,eL,QT _ Qc _ (fun _=>rfl),QT _ (XPart.cells true) _ (fun _=>rfl),eM],by simp,(UpL.refl _)⟩
attribute [local simp] unk unA unE unT unC flat Qc XPart.cells
noncomputable def Q1b (f_:SF) (p_:XPart):Option (SF × List (List Int) × Int) :=
 (Q1E f_ [p_]).bind fun v1 =>
 if ¬ (v1=true) then
  some ((⟨(⟨0,[],[],[],[]⟩:Cat),[],[]⟩:SF),[],1)
 else
  (Qt f_ p_).bind fun v3 =>
  some (v3.1,v3.2,0)
@[simp] abbrev Ym (a:SF) (b:List (Nat × Ent)):List (Nat × Ent):=(0,.mix 7 [(SF.cells true a)])::b
@[simp] abbrev Yq (a:XPart) (b:List (Nat × Ent)):List (Nat × Ent):=(1,.mix 1 [(YM a [])])::(2,.mix 7 [(YP [])])::b
@[simp] abbrev YA (a:List (Nat × AV)):List (Nat × AV):=(2,.adr 0 0 0)::(3,.adr 1 0 0)::a
theorem Q6c [Kd Tryz.prog] [Eo Tryz.prog] (f_:SF) (p_:XPart) (r:SF × List (List Int) × Int) (h:Q1b f_ p_=some r):Contract Tryz.prog 14 [.agg (f_.cells true),.agg (p_.cells true)] (.tup [.agg (r.1.cells true),.lst true 1 (Ls r.2.1),iV r.2.2]):=by
 refine Qn (rvs:=[.cell 4 34,.tmp 5,.tmp 6]) (rs:=[.agg (r.1.cells true),.lst true 1 (Ls r.2.1),iV r.2.2]) Tryz.func14 rfl rfl rfl rfl (by simp [Tryz.f14]) fun F hN hP=>?_;unfold Q1b at h;refine Q3 (runQ hN fun K hK=>?_);simp [eM,eL,eI,Q2,Qg,Qc,SF.cells,XPart.cells];repeat refine sdQ ?_
 refine hK _ ?_;clear hK K;refine tn (Qa (st':=⟨YA [(4,.adr 2 0 0)],Ym f_ (Yq p_ []),3⟩) (wkI22 3) (Q3 (Q3 (runQ hN fun K hK=>?_))));simp [eM,eL,eI,Q2,Qg,Qc,SF.cells,XPart.cells];repeat with_reducible refine sdQ ?_
 replace ⟨v1,hv1,h⟩:=bind_some h;refine Q0 (Q7X _ _ v1 hv1) (.cons (.field rfl (by simp [SF.cells,XPart.cells]) (.cons .val (.cons .lst (.cons .lst (.cons .lst (.cons .lst (.cons .lst (.cons .lst .nil)))))))) (.cons (.lits (es:=_) rfl (.cons rfl (.cons .lst .nil) .nil) rfl) .nil)) ?_;simp [eM,eL,eI,Q2,Qg,Qc,SF.cells,XPart.cells];repeat refine sdQ ?_
 refine hK _ ?_;clear hK K;refine tn (Qa (st':=⟨YA [(4,.adr 2 0 0),(12,.val (.bool (!v1)))],Ym f_ (Yq p_ []),3⟩) (wkI22 3) (Q7 rfl (fun g=>?_) fun g=>?_))
 ·have g2:¬ (v1=true):=gQ;clear g;replace h:=if_l g2 h;refine Q3 (runQ hN fun K hK=>?_);simp [eM,eL,eI,Q2,Qg,Qc,SF.cells,XPart.cells];repeat refine sdQ ?_
  refine hK _ (tn (Qa (st':=⟨[(4,.adr 0 0 0),(5,nS),(6,iV 1)],Y5 [],1⟩) (QW [(2,0)]) (Qj (tr ?_))));clear hK K;have hr:=zH h;rw [← hr];refine ⟨_,(.cell Q7V rfl rfl rfl (by simp) (by simp) (.tmp (.tmp .nil))),?_⟩;refine ⟨(.agg rfl (.one rfl rfl (.one rfl rfl .nil))),[iV 0,nS,nS,nS,nS,nS,nS,nS,iV 1],[],by simp [SF.cells,XPart.cells,UA,U1,IA,I1,LA,L1,BA,B1,EA,E1,E2,eB,eI,eL,QT _ Qc _ (fun _=>rfl),eM],by simp,(.cons .refl (.cons .nil (.cons .nil (.cons .nil (.cons .nil (.cons .nil (.cons .nil (.cons .nil (.cons .refl .nil)))))))))⟩
 have g2:¬ (¬ (v1=true)):=gQ;clear g;replace h:=if_r g2 h;refine Q8 (tn (Q3 (Q1R [] mo (by rw [hN];decide) fun K hK=>?_)));simp [eM,eL,eI,Q2,Qg,Qc,SF.cells,XPart.cells];repeat with_reducible refine sdQ ?_
 replace ⟨v3,hv3,h⟩:=bind_some h;refine Q2m (fz:=[]) (Q1d _ _ v3 hv3) (.cons (.field rfl (by simp [SF.cells,XPart.cells]) (.cons .val (.cons .lst (.cons .lst (.cons .lst (.cons .lst (.cons .lst (.cons .lst .nil)))))))) (.cons (.fnL (by simp) (.cons (.field rfl (by simp [SF.cells,XPart.cells]) (.cons .lst .nil)) .nil)) .nil)) ?_;simp [eM,eL,eI,Q2,Qg,Qc,SF.cells,XPart.cells];repeat refine sdQ ?_
 refine hK _ ?_;clear hK K;refine tn (Qa (st':=⟨[(4,.adr 0 0 0),(7,.adr 1 0 0),(8,.own 8 0 v3.2.length)],Y5 [(1,.mix 7 [[iV v3.1.s.n,.own 2 0 v3.1.s.fr.length,.own 3 0 v3.1.s.to.length,.own 4 0 v3.1.s.id.length,.own 5 0 v3.1.s.cs.length,.own 6 0 v3.1.sz.length,.own 7 0 v3.1.ac.length]]),(2,rI v3.1.s.fr),(3,rI v3.1.s.to),(4,rI v3.1.s.id),(5,.row 1 (Ls v3.1.s.cs)),(6,rI v3.1.sz),(7,.row 1 (Ls v3.1.ac)),(8,.row 1 (Ls v3.2))],9⟩) (QW [(2,0),(11,1),(4,2),(5,3),(6,4),(7,5),(8,6),(9,7),(10,8)]) (Q3 (runQ hN fun K hK=>?_)));simp [eM,eL,eI,Q2,Qg,Qc,SF.cells,XPart.cells];repeat refine sdQ ?_
 refine hK _ (tn (Qa (st':=⟨[(4,.adr 0 0 0),(5,.own 7 0 v3.2.length),(6,iV 0)],[(0,.mix 7 [[iV v3.1.s.n,.own 1 0 v3.1.s.fr.length,.own 2 0 v3.1.s.to.length,.own 3 0 v3.1.s.id.length,.own 4 0 v3.1.s.cs.length,.own 5 0 v3.1.sz.length,.own 6 0 v3.1.ac.length]]),(1,rI v3.1.s.fr),(2,rI v3.1.s.to),(3,rI v3.1.s.id),(4,.row 1 (Ls v3.1.s.cs)),(5,rI v3.1.sz),(6,.row 1 (Ls v3.1.ac)),(7,.row 1 (Ls v3.2))],8⟩) (QW [(0,0),(2,1),(3,2),(4,3),(5,4),(6,5),(7,6),(8,7)]) (Qj ?_)));clear hK K;have hr:=zH h;rw [← hr];refine ⟨_,(.cell Q7V rfl rfl rfl (by simp) (by simp) (.tmp (.tmp .nil))),?_⟩;refine ⟨(.agg rfl (.one rfl rfl (.one rfl rfl .nil))),[iV v3.1.s.n,lI v3.1.s.fr,lI v3.1.s.to,lI v3.1.s.id,.lst true 1 (Ls v3.1.s.cs),lI v3.1.sz,.lst true 1 (Ls v3.1.ac),.lst true 1 (Ls v3.2),iV 0],[1,2,3,4,5,6,7],by simp [SF.cells,XPart.cells,UA,U1,IA,I1,LA,L1,BA,B1,EA,E1,E2,eB,eI,eL,QT _ Qc _ (fun _=>rfl),eM],by simp,(UpL.refl _)⟩
attribute [local simp] unk unA unE unT unC flat
noncomputable def Q2t (f_:SF) (members_:List (List Int)):Option Bool :=
 if ¬ ((members_.length:Int)=(f_.sz.length:Int)) then
  some false
 else
  (QM (σ:=Int) (ε:=Unit ⊕ Bool) (fun s13 =>
   if s13<(members_.length:Int) then
    (
     ass (0≤s13∧s13<(members_.length:Int)) <|
     (Q24 (rx members_ s13)).bind fun v17 =>
     if ¬ (v17=true) then
      some true
     else
      ass (0≤s13∧s13<(f_.sz.length:Int)) <|
      ass (0≤s13∧s13<(members_.length:Int)) <|
      (Q2W (ix f_.sz s13) (rx members_ s13)).bind fun v21 =>
      some (!v21):Option (Bool)).bind fun b15 =>
    if b15=true then
     some (Ctl.ret (Sum.inr false))
    else
     ass (B64 (s13+1)) <|
     some (Ctl.next (s13+1))
   else
    some (Ctl.ret (Sum.inl ()))) fuel 0).bind fun e2 =>
  match e2 with
  | .inl b2 =>
   (QM (σ:=Int) (ε:=Unit ⊕ Bool) (fun s51 =>
    if s51<(f_.ac.length:Int) then
     (
      ass (0≤s51∧s51<(f_.s.fr.length:Int)) <|
      ass (0≤s51∧s51<(f_.s.to.length:Int)) <|
      (QM (σ:=Int) (ε:=Bool ⊕ Unit) (fun s66 =>
       ass (0≤ix f_.s.fr s51∧ix f_.s.fr s51<(members_.length:Int)) <|
       if s66<((rx members_ (ix f_.s.fr s51)).length:Int) then
        ass (0≤ix f_.s.to s51∧ix f_.s.to s51<(members_.length:Int)) <|
        ass (0≤s51∧s51<(f_.ac.length:Int)) <|
        ass (0≤ix f_.s.fr s51∧ix f_.s.fr s51<(members_.length:Int)) <|
        ass (0≤s66∧s66<((rx members_ (ix f_.s.fr s51)).length:Int)) <|
        ass (0≤ix (rx members_ (ix f_.s.fr s51)) s66∧ix (rx members_ (ix f_.s.fr s51)) s66<((rx f_.ac s51).length:Int)) <|
        (Q2j (rx members_ (ix f_.s.to s51)) (ix (rx f_.ac s51) (ix (rx members_ (ix f_.s.fr s51)) s66))).bind fun v74 =>
        if ¬ (v74=true) then
         some (Ctl.ret (Sum.inl false))
        else
         ass (B64 (s66+1)) <|
         some (Ctl.next (s66+1))
       else
        some (Ctl.ret (Sum.inr ()))) fuel 0).bind fun e66 =>
      match e66 with
      | .inl p66 =>
       some (Sum.inr p66)
      | .inr p66 =>
       some (Sum.inl p66):Option (Unit ⊕ Bool)).bind fun e53 =>
     match e53 with
     | .inl b53 =>
      ass (B64 (s51+1)) <|
      some (Ctl.next (s51+1))
     | .inr p53 =>
      some (Ctl.ret (Sum.inr p53))
    else
     some (Ctl.ret (Sum.inl ()))) fuel 0).bind fun e24 =>
   match e24 with
   | .inl b24 =>
    some true
   | .inr p24 =>
    some p24
  | .inr p2 =>
   some p2
@[simp] abbrev YH (a:Int) (b:SF) (c:List (Nat × AV)):List (Nat × AV):=(6,iV a)::(7,iV (ix b.s.fr a))::(8,iV (ix b.s.to a))::c
theorem Q8Q [Kd Tryz.prog] (f_:SF) (members_:List (List Int)) (r:Bool) (h:Q2t f_ members_=some r):Contract Tryz.prog 86 [.agg (f_.cells true),.lst true 1 (Ls members_)] (.val (.bool r)):=by
 refine Qn (rvs:=[.tmp 4]) (rs:=[.val (.bool r)]) Tryz.func86 rfl rfl rfl rfl (by simp [Tryz.f86]) fun F hN hP=>?_;unfold Q2t at h;refine Q3 (runQ hN fun K hK=>?_);simp [eM,eL,eI,Q2,Qg,SF.cells];repeat refine sdQ ?_
 refine hK _ ?_;clear hK K;refine tn (Qa (st':=⟨Yp members_ [],Ym f_ [],1⟩) (QW [(0,0)]) (Q3 (Q3 (runQ hN fun K hK=>?_))));simp [eM,eL,eI,Q2,Qg,SF.cells];repeat refine sdQ ?_
 refine hK _ ?_;clear hK K;refine tn (Q7 rfl (fun g=>?_) fun g=>?_)
 ·have g1:¬ ((members_.length:Int)=(f_.sz.length:Int)):=gQ;clear g;replace h:=if_l g1 h;refine Q3 (runQ hN fun K hK=>?_);simp [eM,eL,eI,Q2,Qg,SF.cells];repeat refine sdQ ?_
  refine hK _ (tn (Qa (st':=⟨YF [],[],0⟩) (QW []) (Qj (tr ?_))));clear hK K;have hr:=zH h;rw [← hr];refine ⟨_,(.tmp .nil),?_⟩;refine ⟨(.one rfl rfl .nil),[.val (.bool false)],[],by simp [SF.cells,UA,U1,IA,I1,LA,L1,BA,B1,EA,E1,E2,eB,eI,eL,eM],by simp,(UpL.refl _)⟩
 have g1:¬ (¬ ((members_.length:Int)=(f_.sz.length:Int))):=gQ;clear g;replace h:=if_r g1 h;refine Q8 (tn (Q3 (Q3 (runQ hN fun K hK=>?_))));simp [eM,eL,eI,Q2,Qg,SF.cells];repeat refine sdQ ?_
 refine hK _ (tn (Qa (st':=⟨Yp members_ [(5,iV 0)],Ym f_ [],1⟩) (QW [(0,0)]) ?_));clear hK K;replace ⟨e2,h,h2⟩:=bind_some h;refine QI (fun b2:Unit=>⟨Yp members_ [],Ym f_ [],1⟩) (fun b2=>Sum.inl b2=e2) ?_ ?_
 ·refine Q6 (QR h (fun s13:Int=>⟨Yp members_ [(5,iV s13)],Ym f_ [],1⟩) (QW [(0,0)]) ?_);clear h;intro k13 s13 c13 h hk13;refine Q3 (Q3 (runQ hN fun K hK=>?_));simp [eM,eL,eI,Q2,Qg,SF.cells];repeat refine sdQ ?_
  refine hK _ ?_;clear hK K;refine tn (Q7 rfl (fun g=>?_) fun g=>?_)
  ·have g14:s13<(members_.length:Int):=gQ;clear g;replace h:=if_l g14 h;refine Q8 (tn (Q3 (Q6 (Q3 ?_))));replace ⟨e15,h,h15⟩:=bind_some h;refine QI (fun b15:Bool=>⟨Yp members_ [(5,iV s13),(40,.val (.bool b15))],Ym f_ [],1⟩) (fun b15=>b15=e15) ?_ ?_
   ·refine runQ hN fun K hK=>?_;replace ⟨a16,h⟩:=Q5 h;simp [eM,eL,eI,Q2,Qg,SF.cells,at_L a16];(repeat with_reducible refine sdQ ?_);replace ⟨v17,hv17,h⟩:=bind_some h;refine Q0 (Q7Z _ v17 hv17) (.cons .lst .nil) ?_;simp [eM,eL,eI,Q2,Qg,SF.cells,at_L a16];(repeat with_reducible refine sdQ ?_);refine Q3V (fun g=>?_) (fun g=>?_)
    ·have g18:¬ (¬ (v17=true)):=gQ;clear g;replace h:=if_r g18 h;replace ⟨a19,h⟩:=Q5 h;replace ⟨a20,h⟩:=Q5 h;simp [eM,eL,eI,Q2,Qg,SF.cells,at_L a16,at_I a19,at_L a20];(repeat with_reducible refine sdQ ?_);replace ⟨v21,hv21,h⟩:=bind_some h;refine Q0 (QaB _ _ v21 hv21) (.cons .val (.cons .lst .nil)) ?_;simp [eM,eL,eI,Q2,Qg,SF.cells,at_L a16,at_I a19,at_L a20];(repeat refine sdQ ?_);refine hK _ ?_;exact jn (b:=!v21) (zH h) (QW [(0,0)])
    have g18:¬ (v17=true):=gQ;clear g;replace h:=if_l g18 h;simp [eM,eL,eI,Q2,Qg,SF.cells,at_L a16];(repeat refine sdQ ?_);refine hK _ ?_;exact jn (b:=true) (zH h) (QW [(0,0)])
   intro b15 hb15;have h:=h15;(try rw [← hb15] at h);clear h15;(try dsimp only at h);refine Q7 rfl (fun g=>?_) fun g=>?_
   ·have g22:b15=true:=gQ;clear g;replace h:=if_l g22 h;refine Q3 (runQ hN fun K hK=>?_);simp [eM,eL,eI,Q2,Qg,SF.cells];(repeat refine sdQ ?_);refine hK _ (tn (Qa (st':=⟨YF [],[],0⟩) (QW []) (Qj (br (tr (lr (br (tr ?_))))))));clear hK K;cases h;have q:_=e2:=hk13;have h:=h2;rw [← q] at h;clear q;(try dsimp only at h);have hr:=zH h;rw [← hr];refine ⟨_,(.tmp .nil),?_⟩;refine ⟨(.one rfl rfl .nil),[.val (.bool false)],[],by simp [SF.cells,UA,U1,IA,I1,LA,L1,BA,B1,EA,E1,E2,eB,eI,eL,eM],by simp,(UpL.refl _)⟩
   have g22:¬ (b15=true):=gQ;clear g;replace h:=if_r g22 h;refine Q8 (bn (tn (runQ hN fun K hK=>?_)));replace ⟨a23,h⟩:=Q5 h;simp [eM,eL,eI,Q2,Qg,SF.cells,QB a23];(repeat refine sdQ ?_);refine hK _ ?_;clear hK K;cases h;exact rn (s':=s13+1) hk13 (QW [(0,0)])
  have g14:¬ (s13<(members_.length:Int)):=gQ;clear g;replace h:=if_r g14 h;refine Qo (tx (lx (bh ?_)));cases h;exact jn (b:=()) hk13 (QW [(0,0)])
 intro b2 hb2;have h:=h2;try rw [← hb2] at h
 clear h2;try dsimp only at h
 refine Q3 (Q3 (runQ hN fun K hK=>?_));simp [eM,eL,eI,Q2,Qg,SF.cells];repeat refine sdQ ?_
 refine hK _ (tn (Qa (st':=⟨Yp members_ [(6,iV 0)],Ym f_ [],1⟩) (QW [(0,0)]) ?_));clear hK K;replace ⟨e24,h,h24⟩:=bind_some h;refine QI (fun b24:Unit=>⟨[],[],0⟩) (fun b24=>Sum.inl b24=e24) ?_ ?_
 ·refine Q6 (QR h (fun s51:Int=>⟨Yp members_ [(6,iV s51)],Ym f_ [],1⟩) (QW [(0,0)]) ?_);clear h;intro k51 s51 c51 h hk51;refine Q3 (Q3 (runQ hN fun K hK=>?_));simp [eM,eL,eI,Q2,Qg,SF.cells];repeat refine sdQ ?_
  refine hK _ ?_;clear hK K;refine tn (Q7 rfl (fun g=>?_) fun g=>?_)
  ·have g52:s51<(f_.ac.length:Int):=gQ;clear g;replace h:=if_l g52 h;refine Q8 (tn (Q3 ?_));replace ⟨e53,h,h53⟩:=bind_some h;refine QI (fun b53:Unit=>⟨Yp members_ [(6,iV s51)],Ym f_ [],1⟩) (fun b53=>Sum.inl b53=e53) ?_ ?_
   ·refine Q6 (Q3 (runQ hN fun K hK=>?_));replace ⟨a54,h⟩:=Q5 h;replace ⟨a55,h⟩:=Q5 h;simp [eM,eL,eI,Q2,Qg,SF.cells,at_I a54,at_I a55];(repeat refine sdQ ?_);refine hK _ ?_;clear hK K;refine tn (Qa (st':=⟨Yp members_ (YH s51 f_ []),Ym f_ [],1⟩) (QW [(0,0)]) (Q3 (runQ hN fun K hK=>?_)));simp [eM,eL,eI,Q2,Qg,SF.cells];(repeat refine sdQ ?_);refine hK _ (tn (Qa (st':=⟨Yp members_ (YH s51 f_ [(9,iV 0)]),Ym f_ [],1⟩) (QW [(0,0)]) (Q6 ?_)));clear hK K;replace ⟨e66,he66,h66⟩:=bind_some h;refine QR he66 (fun s66:Int=>⟨Yp members_ (YH s51 f_ [(9,iV s66)]),Ym f_ [],1⟩) (QW [(0,0)]) ?_;intro k66 s66 c66 h hk66;refine Q3 (Q3 (runQ hN fun K hK=>?_));replace ⟨a67,h⟩:=Q5 h;simp [eM,eL,eI,Q2,Qg,SF.cells,at_L a67];(repeat refine sdQ ?_);refine hK _ ?_;clear hK K;refine tn (Q7 rfl (fun g=>?_) fun g=>?_)
    ·have g68:s66<((rx members_ (ix f_.s.fr s51)).length:Int):=gQ;clear g;replace h:=if_l g68 h;refine Q8 (tn (Q3 (Q6 (Q3 (runQ hN fun K hK=>?_)))));replace ⟨a69,h⟩:=Q5 h;replace ⟨a70,h⟩:=Q5 h;replace ⟨a71,h⟩:=Q5 h;replace ⟨a72,h⟩:=Q5 h;replace ⟨a73,h⟩:=Q5 h;simp [eM,eL,eI,Q2,Qg,SF.cells,at_L a69,at_L a70,at_L a71,at_I a72,at_I a73];(repeat with_reducible refine sdQ ?_);replace ⟨v74,hv74,h⟩:=bind_some h;refine Q0 (QaA _ _ v74 hv74) (.cons .lst (.cons .val .nil)) ?_;simp [eM,eL,eI,Q2,Qg,SF.cells,at_L a69,at_L a70,at_L a71,at_I a72,at_I a73];(repeat refine sdQ ?_);refine hK _ ?_;clear hK K;refine tn (Qa (st':=⟨Yp members_ (YH s51 f_ [(9,iV s66),(88,.val (.bool (!v74)))]),Ym f_ [],1⟩) (QW [(0,0)]) (Q7 rfl (fun g=>?_) fun g=>?_))
     ·have g75:¬ (v74=true):=gQ;clear g;replace h:=if_l g75 h;refine Q3 (runQ hN fun K hK=>?_);simp [eM,eL,eI,Q2,Qg,SF.cells];(repeat refine sdQ ?_);refine hK _ (tn (Qa (st':=⟨YF [],[],0⟩) (QW []) (Qj (br (tr (lr (br (br (tr (lr (br (tr ?_))))))))))));clear hK K;cases h;have q:_=e66:=hk66;have h:=h66;rw [← q] at h;clear q;(try dsimp only at h);cases h;have h:=h53;(try dsimp only at h);cases h;have q:_=e24:=hk51;have h:=h24;rw [← q] at h;clear q;(try dsimp only at h);have hr:=zH h;rw [← hr];refine ⟨_,(.tmp .nil),?_⟩;refine ⟨(.one rfl rfl .nil),[.val (.bool false)],[],by simp [SF.cells,UA,U1,IA,I1,LA,L1,BA,B1,EA,E1,E2,eB,eI,eL,eM],by simp,(UpL.refl _)⟩
     have g75:¬ (¬ (v74=true)):=gQ;clear g;replace h:=if_r g75 h;refine Q8 (bn (tn (runQ hN fun K hK=>?_)));replace ⟨a76,h⟩:=Q5 h;simp [eM,eL,eI,Q2,Qg,SF.cells,QB a76];(repeat refine sdQ ?_);refine hK _ ?_;clear hK K;cases h;exact rn (s':=s66+1) hk66 (QW [(0,0)])
    have g68:¬ (s66<((rx members_ (ix f_.s.fr s51)).length:Int)):=gQ;clear g;replace h:=if_r g68 h;refine Qo (tx (lx (bh (bn ?_))));cases h;have q:_=e66:=hk66;have h:=h66;rw [← q] at h;clear q;(try dsimp only at h);exact jn (b:=()) (zH h) (QW [(0,0)])
   intro b53 hb53;have h:=h53;(try rw [← hb53] at h);clear h53;(try dsimp only at h);refine runQ hN fun K hK=>?_;replace ⟨a77,h⟩:=Q5 h;simp [eM,eL,eI,Q2,Qg,SF.cells,QB a77];(repeat refine sdQ ?_);refine hK _ ?_;clear hK K;cases h;exact rn (s':=s51+1) hk51 (QW [(0,0)])
  have g52:¬ (s51<(f_.ac.length:Int)):=gQ;clear g;replace h:=if_r g52 h;refine Qo (tx (lx (bh ?_)));cases h;exact jn (b:=()) hk51 (QW [])
 intro b24 hb24;have h:=h24;try rw [← hb24] at h
 clear h24;try dsimp only at h
 refine Q3 (runQ hN fun K hK=>?_);simp [eM,eL,eI,Q2,Qg,SF.cells];repeat refine sdQ ?_
 refine hK _ (tn (Qa (st':=⟨[(4,.val (.bool true))],[],0⟩) (QW []) (Qj ?_)));clear hK K;have hr:=zH h;rw [← hr];refine ⟨_,(.tmp .nil),?_⟩;refine ⟨(.one rfl rfl .nil),[.val (.bool true)],[],by simp [SF.cells,UA,U1,IA,I1,LA,L1,BA,B1,EA,E1,E2,eB,eI,eL,eM],by simp,(UpL.refl _)⟩
attribute [local simp] unk unA unE unT unC flat Qc XPart.cells
noncomputable def Q2i (f_:SF) (p_:XPart):Option Bool :=
 (
  (Q3s f_).bind fun v2 =>
  if v2=true then
   (Q2t f_ p_.members_).bind fun v4 =>
   some v4
  else
   some false:Option (Bool)).bind fun b1 =>
 some b1
theorem Qaz [Kd Tryz.prog] (f_:SF) (p_:XPart) (r:Bool) (h:Q2i f_ p_=some r):Contract Tryz.prog 41 [.agg (f_.cells true),.agg (p_.cells true)] (.val (.bool r)):=by
 refine Qn (rvs:=[.tmp 4]) (rs:=[.val (.bool r)]) Tryz.func41 rfl rfl rfl rfl (by simp [Tryz.f41]) fun F hN hP=>?_;unfold Q2i at h;refine Q3 (runQ hN fun K hK=>?_);simp [eM,eL,eI,Q2,Qg,Qc,SF.cells,XPart.cells];repeat refine sdQ ?_
 refine hK _ (tn (Qa (st':=⟨YA [],Ym f_ [(1,.mix 1 [(YM p_ [])])],2⟩) (QW [(0,0),(1,1)]) (Q3 ?_)));clear hK K;replace ⟨e1,h,h1⟩:=bind_some h;refine QI (fun b1:Bool=>⟨[(4,.val (.bool b1))],[],0⟩) (fun b1=>b1=e1) ?_ ?_
 ·refine runQ hN fun K hK=>?_;simp [eM,eL,eI,Q2,Qg,Qc,SF.cells,XPart.cells];repeat with_reducible refine sdQ ?_
  replace ⟨v2,hv2,h⟩:=bind_some h;refine Q0 (w_s_l19Is _ v2 hv2) (.cons (.aggL (.cons .val (.cons .lst (.cons .lst (.cons .lst (.cons .lst (.cons .lst (.cons .lst .nil)))))))) .nil) ?_;simp [eM,eL,eI,Q2,Qg,Qc,SF.cells,XPart.cells];repeat with_reducible refine sdQ ?_
  refine Q3V (fun g=>?_) (fun g=>?_)
  ·have g3:v2=true:=gQ;clear g;replace h:=if_l g3 h;simp [eM,eL,eI,Q2,Qg,Qc,SF.cells,XPart.cells];(repeat with_reducible refine sdQ ?_);replace ⟨v4,hv4,h⟩:=bind_some h;refine Q0 (Q8Q _ _ v4 hv4) (.cons (.aggL (.cons .val (.cons .lst (.cons .lst (.cons .lst (.cons .lst (.cons .lst (.cons .lst .nil)))))))) (.cons .lst .nil)) ?_;simp [eM,eL,eI,Q2,Qg,Qc,SF.cells,XPart.cells];(repeat refine sdQ ?_);refine hK _ ?_;exact jn (b:=v4) (zH h) (QW [])
  have g3:¬ (v2=true):=gQ;clear g;replace h:=if_r g3 h;simp [eM,eL,eI,Q2,Qg,Qc,SF.cells,XPart.cells];repeat refine sdQ ?_
  refine hK _ ?_;exact jn (b:=false) (zH h) (QW [])
 intro b1 hb1;have h:=h1;try rw [← hb1] at h
 clear h1;try dsimp only at h
 refine Qj ?_;have hr:=zH h;rw [← hr];refine ⟨_,(.tmp .nil),?_⟩;refine ⟨(.one rfl rfl .nil),[.val (.bool b1)],[],by simp [SF.cells,XPart.cells,UA,U1,IA,I1,LA,L1,BA,B1,EA,E1,E2,eB,eI,eL,QT _ Qc _ (fun _=>rfl),eM],by simp,(UpL.refl _)⟩
attribute [local simp] unk unA unE unT unC flat Qc XPart.cells
noncomputable def Q1c (f_:SF) (p_:XPart):Option (SF × List (List Int) × Int) :=
 (Q2i f_ p_).bind fun v1 =>
 if ¬ (v1=true) then
  some ((⟨(⟨0,[],[],[],[]⟩:Cat),[],[]⟩:SF),[],1)
 else
  (Q1N f_ p_.members_).bind fun v3 =>
  (Q3b p_.members_).bind fun v4 =>
  some (v3,v4,0)
theorem Q6d [Kd Tryz.prog] (f_:SF) (p_:XPart) (r:SF × List (List Int) × Int) (h:Q1c f_ p_=some r):Contract Tryz.prog 11 [.agg (f_.cells true),.agg (p_.cells true)] (.tup [.agg (r.1.cells true),.lst true 1 (Ls r.2.1),iV r.2.2]):=by
 refine Qn (rvs:=[.cell 4 34,.tmp 5,.tmp 6]) (rs:=[.agg (r.1.cells true),.lst true 1 (Ls r.2.1),iV r.2.2]) Tryz.func11 rfl rfl rfl rfl (by simp [Tryz.f11]) fun F hN hP=>?_;unfold Q1c at h;refine Q3 (runQ hN fun K hK=>?_);simp [eM,eL,eI,Q2,Qg,Qc,SF.cells,XPart.cells];repeat refine sdQ ?_
 refine hK _ ?_;clear hK K;refine tn (Qa (st':=⟨YA [(4,.adr 2 0 0)],Ym f_ (Yq p_ []),3⟩) (wkI22 3) (Q3 (Q3 (runQ hN fun K hK=>?_))));simp [eM,eL,eI,Q2,Qg,Qc,SF.cells,XPart.cells];repeat with_reducible refine sdQ ?_
 replace ⟨v1,hv1,h⟩:=bind_some h;refine Q0 (Qaz _ _ v1 hv1) (.cons (.aggL (.cons .val (.cons .lst (.cons .lst (.cons .lst (.cons .lst (.cons .lst (.cons .lst .nil)))))))) (.cons (.aggL (.cons .lst .nil)) .nil)) ?_;simp [eM,eL,eI,Q2,Qg,Qc,SF.cells,XPart.cells];repeat refine sdQ ?_
 refine hK _ ?_;clear hK K;refine tn (Qa (st':=⟨YA [(4,.adr 2 0 0),(10,.val (.bool (!v1)))],Ym f_ (Yq p_ []),3⟩) (wkI22 3) (Q7 rfl (fun g=>?_) fun g=>?_))
 ·have g2:¬ (v1=true):=gQ;clear g;replace h:=if_l g2 h;refine Q3 (runQ hN fun K hK=>?_);simp [eM,eL,eI,Q2,Qg,Qc,SF.cells,XPart.cells];repeat refine sdQ ?_
  refine hK _ (tn (Qa (st':=⟨[(4,.adr 0 0 0),(5,nS),(6,iV 1)],Y5 [],1⟩) (QW [(2,0)]) (Qj (tr ?_))));clear hK K;have hr:=zH h;rw [← hr];refine ⟨_,(.cell Q7V rfl rfl rfl (by simp) (by simp) (.tmp (.tmp .nil))),?_⟩;refine ⟨(.agg rfl (.one rfl rfl (.one rfl rfl .nil))),[iV 0,nS,nS,nS,nS,nS,nS,nS,iV 1],[],by simp [SF.cells,XPart.cells,UA,U1,IA,I1,LA,L1,BA,B1,EA,E1,E2,eB,eI,eL,QT _ Qc _ (fun _=>rfl),eM],by simp,(.cons .refl (.cons .nil (.cons .nil (.cons .nil (.cons .nil (.cons .nil (.cons .nil (.cons .nil (.cons .refl .nil)))))))))⟩
 have g2:¬ (¬ (v1=true)):=gQ;clear g;replace h:=if_r g2 h;refine Q8 (tn (Q3 (runQ hN fun K hK=>?_)));simp [eM,eL,eI,Q2,Qg,Qc,SF.cells,XPart.cells];repeat with_reducible refine sdQ ?_
 replace ⟨v3,hv3,h⟩:=bind_some h;refine Q0 (Q72 _ _ v3 hv3) (.cons (.aggL (.cons .val (.cons .lst (.cons .lst (.cons .lst (.cons .lst (.cons .lst (.cons .lst .nil)))))))) (.cons .lst .nil)) ?_;simp [eM,eL,eI,Q2,Qg,Qc,SF.cells,XPart.cells];repeat with_reducible refine sdQ ?_
 replace ⟨v4,hv4,h⟩:=bind_some h;refine Q0 (Q8P _ v4 hv4) (.cons .lst .nil) ?_;simp [eM,eL,eI,Q2,Qg,Qc,SF.cells,XPart.cells];repeat refine sdQ ?_
 refine hK _ (tn (Qa (st':=⟨[(4,.adr 0 0 0),(5,.own 7 0 v4.length),(6,iV 0)],[(0,.mix 7 [[iV v3.s.n,.own 1 0 v3.s.fr.length,.own 2 0 v3.s.to.length,.own 3 0 v3.s.id.length,.own 4 0 v3.s.cs.length,.own 5 0 v3.sz.length,.own 6 0 v3.ac.length]]),(1,rI v3.s.fr),(2,rI v3.s.to),(3,rI v3.s.id),(4,.row 1 (Ls v3.s.cs)),(5,rI v3.sz),(6,.row 1 (Ls v3.ac)),(7,.row 1 (Ls v4))],8⟩) (QW [(2,0),(4,1),(5,2),(6,3),(7,4),(8,5),(9,6),(10,7)]) (Qj ?_)));clear hK K;have hr:=zH h;rw [← hr];refine ⟨_,(.cell Q7V rfl rfl rfl (by simp) (by simp) (.tmp (.tmp .nil))),?_⟩;refine ⟨(.agg rfl (.one rfl rfl (.one rfl rfl .nil))),[iV v3.s.n,lI v3.s.fr,lI v3.s.to,lI v3.s.id,.lst true 1 (Ls v3.s.cs),lI v3.sz,.lst true 1 (Ls v3.ac),.lst true 1 (Ls v4),iV 0],[1,2,3,4,5,6,7],by simp [SF.cells,XPart.cells,UA,U1,IA,I1,LA,L1,BA,B1,EA,E1,E2,eB,eI,eL,QT _ Qc _ (fun _=>rfl),eM],by simp,(UpL.refl _)⟩
section
attribute [local simp] Qf QF Qs Q1o QS
theorem e_l25Part {f:SF} (hf:f.Sh) {m:List (List Int)} (hp:∀ x∈m,x.length≤1048576):Q2t f m=some (bo (PartQ f m)):=by
 unfold Q2t
 by_cases hl:m.length=f.sz.length
 case neg =>
  rw [if_pos (by omega),Q1f fun q=>hl q.1]
 rw [if_neg (by omega)];have n8:=hf.cat.1.n8;have ls:=hf.ls;have m40:=hf.cat.1.m40;have hla:=hf.la;refine Q1q m.length (fun x=>¬ RowQ f m x) (eb:=fun _=>Sum.inr false) (eg:=Sum.inl ()) (by omega) (fun i hi hq=>?_) (fun i hi hq=>?_) (by rw [if_neg (by omega)]) (fun x hx hq _=>?_) fun hq=>?_
 ·obtain ⟨h1,h2⟩:=Classical.not_not.1 hq;unfold Q2W;rw [if_pos (by omega),Q4 (by omega),Q6i (hp _ (Q46 hi)),Q1m h1];simp only [zM,not_true_eq_false,if_false];rw [Q4 (by omega),Q4 (by omega),h2];simp only [zM,Bool.not_true,Bool.false_eq_true,if_false];rw [Q4 (by unfold B64;omega)]
 ·unfold Q2W;rw [if_pos (by omega),Q4 (by omega),Q6i (hp _ (Q46 hi))];simp only [zM]
  by_cases h1:Rise (rx m i)
  ·have h2:(rx m i).all (inR (ix f.sz i))=false:=by
    cases hh:(rx m i).all (inR (ix f.sz i)) with
    | true=>exact absurd ⟨h1,hh⟩ hq
    | false=>rfl
   rw [Q1m h1];simp only [not_true_eq_false,if_false];rw [Q4 (by omega),Q4 (by omega),h2];rfl
  rw [Q1f h1];rfl
 ·rw [Q1f fun q=>hq (q.2.1 x hx)]
 have hq':∀ x:Nat,x<m.length→RowQ f m x:=fun x hx=>Classical.not_not.1 (hq x hx);have hF:=Q5G hf hl hq';simp only;refine Q1q f.ac.length (fun a=>¬ ArQ f m a) (eb:=fun _=>Sum.inr false) (eg:=Sum.inl ()) (by omega) (fun a ha hr=>?_) (fun a ha hr=>?_) (by rw [if_neg (by omega)]) (fun a ha hr _=>?_) fun hr=>?_
 ·obtain ⟨b1,b2,b3,b4,b5⟩:=hF a ha;rw [if_pos (by omega),Q4 (by omega),Q4 (by omega)];refine Q6E (x:=Sum.inl ()) ?_ (by simp only;rw [Q4 (by unfold B64;omega)]);refine Q1q (rx m (ix f.s.fr a)).length (fun _=>False) (eb:=fun _=>Sum.inr ()) (eg:=Sum.inr ()) (by omega) (fun k hk _=>?_) (fun k hk q=>q.elim) (by rw [Q4 (by omega),if_neg (by omega)]) (fun k hk q _=>q.elim) fun _=>rfl;have hb:=b5 k hk;unfold Q2j;rw [Q4 (by omega),if_pos (by omega),Q4 (by omega),Q4 (by omega),Q4 (by omega),Q4 (by omega),Q4 (by omega),Q1m (Classical.not_not.1 hr k hk)];simp only [zM,not_true_eq_false,if_false];rw [Q4 (by unfold B64;omega)]
 ·obtain ⟨b1,b2,b3,b4,b5⟩:=hF a ha;rw [if_pos (by omega),Q4 (by omega),Q4 (by omega)];refine Q6E (x:=Sum.inr false) ?_ rfl;refine Q1q (rx m (ix f.s.fr a)).length (fun k=>¬ ix (rx f.ac a) (ix (rx m (ix f.s.fr a)) k)∈rx m (ix f.s.to a)) (eb:=fun _=>Sum.inl false) (eg:=Sum.inr ()) (by omega) (fun k hk q=>?_) (fun k hk q=>?_) (by rw [Q4 (by omega),if_neg (by omega)]) (fun k hk q _=>rfl) fun q=>absurd (fun k hk=>Classical.not_not.1 (q k hk)) hr
  ·have hb:=b5 k hk;unfold Q2j;rw [Q4 (by omega),if_pos (by omega),Q4 (by omega),Q4 (by omega),Q4 (by omega),Q4 (by omega),Q4 (by omega),Q1m (Classical.not_not.1 q)];simp only [zM,not_true_eq_false,if_false];rw [Q4 (by unfold B64;omega)]
  have hb:=b5 k hk;unfold Q2j;rw [Q4 (by omega),if_pos (by omega),Q4 (by omega),Q4 (by omega),Q4 (by omega),Q4 (by omega),Q4 (by omega),Q1f q];simp
 ·simp only;rw [Q1f fun q=>hr (q.2.2 a ha)]
 simp only;rw [Q1m ⟨hl,hq',fun a ha=>Classical.not_not.1 (hr a ha)⟩]
theorem PartQ.part {f:SF} (hf:f.Sh) {m:List (List Int)} (h:PartQ f m):PartP f fun x:Nat=>rx m x:=by
 obtain ⟨hl,hr,ha⟩:=h;have ls:=hf.ls;have hla:=hf.la;refine ⟨hf,fun x hx=>(hr x (by omega)).1.nd,fun x hx=>?_,fun x hx y hy=>?_,fun a h1 y hy=>?_⟩
 ·have r:=hr x (by omega);have s1:=Q1p hf.sz (j:=x) (by omega) (by omega);have:=r.1.len r.2 s1.1;omega
 ·have:=List.all_eq_true.1 (hr x (by omega)).2 y hy;simp only [inR,Bool.and_eq_true,decide_eq_true_eq] at this;omega
 have b:=(Q5G hf hl hr a (by omega)).1;have e1:((ix f.s.fr a).toNat:Int)=ix f.s.fr a:=by omega
 have e2:((ix f.s.to a).toNat:Int)=ix f.s.to a:=by omega
 simp only [e1] at hy;simp only [e2];obtain ⟨k,hk,rfl⟩:=List.getElem_of_mem hy;rw [QO _ _ hk];exact ha a (by omega) k hk
theorem tab_rx0 (xs:List (List Int)):tab xs.length (fun i:Nat=>rx xs i)=xs:=by
 apply List.ext_getElem (by simp);intro i h1 h2;simp [tab,← QV xs i h2]
theorem Q7z (f:SF) (p:XPart) (hp:p.ok):∃ r,Q1c f p=some r∧Q1b f p=some r∧(r.1.ok∧r.1.size≤10000)∧(r.2.1.length≤1048576∧∀ x∈r.2.1,x.length≤1048576)∧sumL r.2.1≤10000:=by
 by_cases hf:f.Is
 case neg =>
  refine ⟨(sf0,[],1),?_,?_,sf0_ok,nil_ok⟩
  ·unfold Q1c Q2i Q3s;simp [Q1f hf,sf0]
  unfold Q1b Q1E Qx;simp [Q1f hf,sf0]
 have hS:=hf.1;have h1:Q2i f p=some (bo (PartQ f p.members_)):=by
  unfold Q2i Q3s;simp only [Q1m hf,zM,if_true,e_l25Part hS hp.2.1]
 have h2:Q1E f [p]=some (bo (PartQ f p.members_)):=by
  unfold Q1E Qx;simp only [Q1m hf,zM,not_true_eq_false,if_false];have hg:gx [p] ((0:Nat):Int)=p:=rfl
  by_cases hq:PartQ f p.members_
  ·refine Q1q 1 (fun _=>False) (eb:=fun _=>Sum.inr false) (eg:=Sum.inl ()) (by omega) (fun i hi _=>?_) (fun i hi q=>q.elim) (by simp) (fun m hm q _=>q.elim) fun _=>?_
   ·have:i=0:=(by omega);subst this;rw [if_pos (by simp),Q4 (by simp),hg,Q93 hS hp.2.1,Q1m hq];simp only [zM,not_true_eq_false,if_false];rw [Q4 (by unfold B64;omega)]
   simp only;rw [Q1m hq]
  refine Q1q 1 (fun _=>True) (eb:=fun _=>Sum.inr false) (eg:=Sum.inl ()) (by omega) (fun i hi q=>absurd trivial q) (fun i hi _=>?_) (by simp) (fun m hm _ _=>?_) fun q=>absurd trivial (q 0 (by omega))
  ·have:i=0:=(by omega);subst this;rw [if_pos (by simp),Q4 (by simp),hg,Q93 hS hp.2.1,Q1f hq];simp
  simp only;rw [Q1f hq]
 by_cases hq:PartQ f p.members_
 case neg =>
  refine ⟨(sf0,[],1),?_,?_,sf0_ok,nil_ok⟩
  ·unfold Q1c;simp [h1,Q1f hq,sf0]
  unfold Q1b;simp [h2,Q1f hq,sf0]
 have hP:=hq.part hS;have ls:=hS.ls;have hl:=hq.1;have hM:subM f (fun x:Nat=>rx p.members_ x)=p.members_:=by
  unfold subM;rw [show f.s.n.toNat=p.members_.length by omega,tab_rx0]
 have hok:=sub_ok hP.sub hP.len;refine ⟨(subF f (fun x:Nat=>rx p.members_ x),subM f (fun x:Nat=>rx p.members_ x),0),?_,?_,hok.1,hok.2⟩
 ·have hsub:=e_subset hP.sub;rw [hM] at hsub ⊢;unfold Q1c Q3b;simp only [h1,Q1m hq,zM,not_true_eq_false,if_false,hsub];rw [Q4 hp.1,Q4 hp.2.1];rfl
 unfold Q1b;simp only [h2,Q1m hq,zM,not_true_eq_false,if_false];have hpart:Qt f p=some (subF f (fun x:Nat=>rx p.members_ x),subM f (fun x:Nat=>rx p.members_ x)):=by
  refine e_part hP (at_:=fun k=>Qv k p) fun x hx=>?_;unfold Qv Q11;rw [Q4 (by omega)];simp only [zM];exact e_sgs (by have:=hP.len x (by omega);omega) rfl
 rw [hpart];rfl
end
end Go.Vc.T
