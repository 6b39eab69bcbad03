/- A part of the proof: a verified generator of conditions, and what each function of the program does. -/
import Derived.Test.YtfinipknacaojaaGreatR10
set_option maxRecDepth 100000
set_option maxHeartbeats 4000000
set_option linter.unusedSimpArgs false
set_option linter.unusedVariables false

namespace Go.Vc.T
open Go Go.Vc Go.Proofs
noncomputable def Q23 (m_:Mnd):Option (Cat × List (List Int) × List (List Int) × Int) :=
 (Q3u m_).bind fun v1 =>
 if ¬ (v1=true) then
  some ((⟨0,[],[],[],[]⟩:Cat),[],[],1)
 else
  (Q2c m_).bind fun v3 =>
  (Q20 v3.1).bind fun v4 =>
  if ¬ (v4=true) then
   some ((⟨0,[],[],[],[]⟩:Cat),[],[],3)
  else
   some (v3.1,v3.2.1,v3.2.2,0)
theorem Q7V (m_:Mnd) (r:Cat × List (List Int) × List (List Int) × Int) (h:Q23 m_=some r):Contract Tryz.prog 60 [.agg (m_.cells true)] (.tup [.agg (r.1.cells true),.lst true 1 (Ls r.2.1),.lst true 1 (Ls r.2.2.1),.val (.int .i64 r.2.2.2)]):=by
 refine Qk (rvs:=[.cell 2 31,.tmp 3,.tmp 4,.tmp 5]) (rs:=[.agg (r.1.cells true),.lst true 1 (Ls r.2.1),.lst true 1 (Ls r.2.2.1),.val (.int .i64 r.2.2.2)]) Tryz.func60 rfl rfl rfl rfl (by simp [Tryz.f60]) fun F hN hP=>?_
 unfold Q23 at h
 refine Q8 ?_
 refine runQ hN fun K hK=>?_
 simp [-Q0,-Q9,-Q3,-Qa,-Q4,eL,eI,Q2,Q7,Qf,Cat.cells,Mnd.cells]
 repeat with_reducible refine sdQ ?_
 refine hK _ ?_;clear hK K
 refine tn ?_
 refine Qd (st':=⟨[(1,.adr 0 0 0),(2,.adr 1 0 0)],[(0,.mix 14 [(Mnd.cells true m_)]),(1,.mix 5 [[.val (.int .i64 0),.val (.slice none 0 0),.val (.slice none 0 0),.val (.slice none 0 0),.val (.slice none 0 0)]])],2⟩) (Wk.r1 [(0,0),(1,1)] (by simp [hP,hhOk,back,Cat.cells,Mnd.cells,UA,U1,IA,I1,LA,L1,BA,B1,EA,E1,E2,eB,eI,eL])) ?_
 refine Q8 ?_
 refine Q8 ?_
 refine runQ hN fun K hK=>?_
 simp [-Q0,-Q9,-Q3,-Qa,-Q4,eL,eI,Q2,Q7,Qf,Cat.cells,Mnd.cells]
 repeat with_reducible refine sdQ ?_
 replace h:=bind_some h
 obtain ⟨v1,hv1,h⟩:=h
 refine Q5 (w_s_l16Is _ v1 hv1) (.cons (.aggL (.cons .val (.cons .lst (.cons .lst (.cons .lst (.cons .lst (.cons .val (.cons .lst (.cons .lst (.cons .lst (.cons .lst (.cons .lst (.cons .lst (.cons .lst (.cons .lst .nil))))))))))))))) .nil) ?_
 simp [-Q0,-Q9,-Q3,-Qa,-Q4,unk,unA,unE,unT,unC,flat,eL,eI,Q2,Q7,Qf,Cat.cells,Mnd.cells]
 repeat with_reducible refine sdQ ?_
 refine hK _ ?_;clear hK K
 refine tn ?_
 refine Qd (st':=⟨[(1,.adr 0 0 0),(2,.adr 1 0 0),(11,.val (.bool (!v1)))],[(0,.mix 14 [(Mnd.cells true m_)]),(1,.mix 5 [[.val (.int .i64 0),.val (.slice none 0 0),.val (.slice none 0 0),.val (.slice none 0 0),.val (.slice none 0 0)]])],2⟩) (Wk.r1 [(0,0),(1,1)] (by simp [hP,hhOk,back,Cat.cells,Mnd.cells,UA,U1,IA,I1,LA,L1,BA,B1,EA,E1,E2,eB,eI,eL])) ?_
 refine Qi rfl (fun g=>?_) fun g=>?_
 ·have g2:¬ (v1=true):=gQ
  clear g
  replace h:=if_l g2 h
  refine Q8 ?_
  refine runQ hN fun K hK=>?_
  simp [-Q0,-Q9,-Q3,-Qa,-Q4,eL,eI,Q2,Q7,Qf,Cat.cells,Mnd.cells]
  repeat with_reducible refine sdQ ?_
  refine hK _ ?_;clear hK K
  refine tn ?_
  refine Qd (st':=⟨[(2,.adr 0 0 0),(3,.val (.slice none 0 0)),(4,.val (.slice none 0 0)),(5,.val (.int .i64 1))],[(0,.mix 5 [[.val (.int .i64 0),.val (.slice none 0 0),.val (.slice none 0 0),.val (.slice none 0 0),.val (.slice none 0 0)]])],1⟩) (Wk.r1 [(1,0)] (by simp [hP,hhOk,back,Cat.cells,Mnd.cells,UA,U1,IA,I1,LA,L1,BA,B1,EA,E1,E2,eB,eI,eL])) ?_
  refine Qn ?_
  refine tr ?_
  have hr:=Option.some.inj h
  rw [← hr]
  refine ⟨_,(.cell tf_31 rfl rfl rfl (by simp) (by simp) (.tmp (.tmp (.tmp .nil)))),?_⟩
  refine ⟨(.agg rfl (.one rfl rfl (.one rfl rfl (.one rfl rfl .nil)))),[.val (.int .i64 0),.val (.slice none 0 0),.val (.slice none 0 0),.val (.slice none 0 0),.val (.slice none 0 0),.val (.slice none 0 0),.val (.slice none 0 0),.val (.int .i64 1)],[],by simp [Cat.cells,Mnd.cells,UA,U1,IA,I1,LA,L1,BA,B1,EA,E1,E2,eB,eI,eL],by simp,(.cons .refl (.cons .nil (.cons .nil (.cons .nil (.cons .nil (.cons .nil (.cons .nil (.cons .refl .nil))))))))⟩
 have g2:¬ (¬ (v1=true)):=gQ
 clear g
 replace h:=if_r g2 h
 refine Qj ?_
 refine tn ?_
 refine Q8 ?_
 refine runQ hN fun K hK=>?_
 simp [-Q0,-Q9,-Q3,-Qa,-Q4,eL,eI,Q2,Q7,Qf,Cat.cells,Mnd.cells]
 repeat with_reducible refine sdQ ?_
 replace h:=bind_some h
 obtain ⟨v3,hv3,h⟩:=h
 refine Q5 (Q7d _ v3 hv3) (.cons (.aggL (.cons .val (.cons .lst (.cons .lst (.cons .lst (.cons .lst (.cons .val (.cons .lst (.cons .lst (.cons .lst (.cons .lst (.cons .lst (.cons .lst (.cons .lst (.cons .lst .nil))))))))))))))) .nil) ?_
 simp [-Q0,-Q9,-Q3,-Qa,-Q4,unk,unA,unE,unT,unC,flat,eL,eI,Q2,Q7,Qf,Cat.cells,Mnd.cells]
 repeat with_reducible refine sdQ ?_
 refine hK _ ?_;clear hK K
 refine tn ?_
 refine Qd (st':=⟨[(2,.adr 0 0 0),(6,.adr 1 0 0),(7,.own 6 0 v3.2.1.length),(8,.own 7 0 v3.2.2.length)],[(0,.mix 5 [[.val (.int .i64 0),.val (.slice none 0 0),.val (.slice none 0 0),.val (.slice none 0 0),.val (.slice none 0 0)]]),(1,.mix 5 [[.val (.int .i64 v3.1.n),.own 2 0 v3.1.fr.length,.own 3 0 v3.1.to.length,.own 4 0 v3.1.id.length,.own 5 0 v3.1.cs.length]]),(2,.row 1 (Is v3.1.fr)),(3,.row 1 (Is v3.1.to)),(4,.row 1 (Is v3.1.id)),(5,.row 1 (Ls v3.1.cs)),(6,.row 1 (Ls v3.2.1)),(7,.row 1 (Ls v3.2.2))],8⟩) (Wk.r1 [(1,0),(9,1),(3,2),(4,3),(5,4),(6,5),(7,6),(8,7)] (by simp [hP,hhOk,back,Cat.cells,Mnd.cells,UA,U1,IA,I1,LA,L1,BA,B1,EA,E1,E2,eB,eI,eL])) ?_
 refine Q8 ?_
 refine Q8 ?_
 refine runQ hN fun K hK=>?_
 simp [-Q0,-Q9,-Q3,-Qa,-Q4,eL,eI,Q2,Q7,Qf,Cat.cells,Mnd.cells]
 repeat with_reducible refine sdQ ?_
 replace h:=bind_some h
 obtain ⟨v4,hv4,h⟩:=h
 refine Q5 (Q5s _ v4 hv4) (.cons (.aggL (.cons .val (.cons (.whole (by simp) (by simp) (by simp)) (.cons (.whole (by simp) (by simp) (by simp)) (.cons (.whole (by simp) (by simp) (by simp)) (.cons (.whole (by simp) (by simp) (by simp)) .nil)))))) .nil) ?_
 simp [-Q0,-Q9,-Q3,-Qa,-Q4,unk,unA,unE,unT,unC,flat,eL,eI,Q2,Q7,Qf,Cat.cells,Mnd.cells]
 repeat with_reducible refine sdQ ?_
 refine hK _ ?_;clear hK K
 refine tn ?_
 refine Qd (st':=⟨[(2,.adr 0 0 0),(6,.adr 1 0 0),(7,.own 6 0 v3.2.1.length),(8,.own 7 0 v3.2.2.length),(21,.val (.bool (!v4)))],[(0,.mix 5 [[.val (.int .i64 0),.val (.slice none 0 0),.val (.slice none 0 0),.val (.slice none 0 0),.val (.slice none 0 0)]]),(1,.mix 5 [[.val (.int .i64 v3.1.n),.own 2 0 v3.1.fr.length,.own 3 0 v3.1.to.length,.own 4 0 v3.1.id.length,.own 5 0 v3.1.cs.length]]),(2,.row 1 (Is v3.1.fr)),(3,.row 1 (Is v3.1.to)),(4,.row 1 (Is v3.1.id)),(5,.row 1 (Ls v3.1.cs)),(6,.row 1 (Ls v3.2.1)),(7,.row 1 (Ls v3.2.2))],8⟩) (Wk.r1 [(0,0),(1,1),(2,2),(3,3),(4,4),(5,5),(6,6),(7,7)] (by simp [hP,hhOk,back,Cat.cells,Mnd.cells,UA,U1,IA,I1,LA,L1,BA,B1,EA,E1,E2,eB,eI,eL])) ?_
 refine Qi rfl (fun g=>?_) fun g=>?_
 ·have g5:¬ (v4=true):=gQ
  clear g
  replace h:=if_l g5 h
  refine Q8 ?_
  refine runQ hN fun K hK=>?_
  simp [-Q0,-Q9,-Q3,-Qa,-Q4,eL,eI,Q2,Q7,Qf,Cat.cells,Mnd.cells]
  repeat with_reducible refine sdQ ?_
  refine hK _ ?_;clear hK K
  refine tn ?_
  refine Qd (st':=⟨[(2,.adr 0 0 0),(3,.val (.slice none 0 0)),(4,.val (.slice none 0 0)),(5,.val (.int .i64 3))],[(0,.mix 5 [[.val (.int .i64 0),.val (.slice none 0 0),.val (.slice none 0 0),.val (.slice none 0 0),.val (.slice none 0 0)]])],1⟩) (Wk.r1 [(0,0)] (by simp [hP,hhOk,back,Cat.cells,Mnd.cells,UA,U1,IA,I1,LA,L1,BA,B1,EA,E1,E2,eB,eI,eL])) ?_
  refine Qn ?_
  refine tr ?_
  have hr:=Option.some.inj h
  rw [← hr]
  refine ⟨_,(.cell tf_31 rfl rfl rfl (by simp) (by simp) (.tmp (.tmp (.tmp .nil)))),?_⟩
  refine ⟨(.agg rfl (.one rfl rfl (.one rfl rfl (.one rfl rfl .nil)))),[.val (.int .i64 0),.val (.slice none 0 0),.val (.slice none 0 0),.val (.slice none 0 0),.val (.slice none 0 0),.val (.slice none 0 0),.val (.slice none 0 0),.val (.int .i64 3)],[],by simp [Cat.cells,Mnd.cells,UA,U1,IA,I1,LA,L1,BA,B1,EA,E1,E2,eB,eI,eL],by simp,(.cons .refl (.cons .nil (.cons .nil (.cons .nil (.cons .nil (.cons .nil (.cons .nil (.cons .refl .nil))))))))⟩
 have g5:¬ (¬ (v4=true)):=gQ
 clear g
 replace h:=if_r g5 h
 refine Qj ?_
 refine tn ?_
 refine Q8 ?_
 refine runQ hN fun K hK=>?_
 simp [-Q0,-Q9,-Q3,-Qa,-Q4,eL,eI,Q2,Q7,Qf,Cat.cells,Mnd.cells]
 repeat with_reducible refine sdQ ?_
 refine hK _ ?_;clear hK K
 refine tn ?_
 refine Qd (st':=⟨[(2,.adr 0 0 0),(3,.own 5 0 v3.2.1.length),(4,.own 6 0 v3.2.2.length),(5,.val (.int .i64 0))],[(0,.mix 5 [[.val (.int .i64 v3.1.n),.own 1 0 v3.1.fr.length,.own 2 0 v3.1.to.length,.own 3 0 v3.1.id.length,.own 4 0 v3.1.cs.length]]),(1,.row 1 (Is v3.1.fr)),(2,.row 1 (Is v3.1.to)),(3,.row 1 (Is v3.1.id)),(4,.row 1 (Ls v3.1.cs)),(5,.row 1 (Ls v3.2.1)),(6,.row 1 (Ls v3.2.2))],7⟩) (Wk.r1 [(0,0),(2,1),(3,2),(4,3),(5,4),(6,5),(7,6)] (by simp [hP,hhOk,back,Cat.cells,Mnd.cells,UA,U1,IA,I1,LA,L1,BA,B1,EA,E1,E2,eB,eI,eL])) ?_
 refine Qn ?_
 have hr:=Option.some.inj h
 rw [← hr]
 refine ⟨_,(.cell tf_31 rfl rfl rfl (by simp) (by simp) (.tmp (.tmp (.tmp .nil)))),?_⟩
 refine ⟨(.agg rfl (.one rfl rfl (.one rfl rfl (.one rfl rfl .nil)))),[.val (.int .i64 v3.1.n),.lst true 1 (Is v3.1.fr),.lst true 1 (Is v3.1.to),.lst true 1 (Is v3.1.id),.lst true 1 (Ls v3.1.cs),.lst true 1 (Ls v3.2.1),.lst true 1 (Ls v3.2.2),.val (.int .i64 0)],[1,2,3,4,5,6],by simp [Cat.cells,Mnd.cells,UA,U1,IA,I1,LA,L1,BA,B1,EA,E1,E2,eB,eI,eL],by simp,(UpL.refl _)⟩
end Go.Vc.T
namespace Go.Vc.T
open Go Go.Vc Go.Proofs
noncomputable def Q1C (m_:Mnd):Option (List (List Int) × Int) :=
 (Q23 m_).bind fun v1 =>
 some (v1.2.2.1,v1.2.2.2)
theorem Q4x (m_:Mnd) (r:List (List Int) × Int) (h:Q1C m_=some r):Contract Tryz.prog 18 [.agg (m_.cells true)] (.tup [.lst true 1 (Ls r.1),.val (.int .i64 r.2)]):=by
 refine Qk (rvs:=[.tmp 2,.tmp 3]) (rs:=[.lst true 1 (Ls r.1),.val (.int .i64 r.2)]) Tryz.func18 rfl rfl rfl rfl (by simp [Tryz.f18]) fun F hN hP=>?_
 unfold Q1C at h
 refine Q8 ?_
 refine runQ hN fun K hK=>?_
 simp [-Q0,-Q9,-Q3,-Qa,-Q4,eL,eI,Q2,Q7,Qf,Cat.cells,Mnd.cells]
 repeat with_reducible refine sdQ ?_
 refine hK _ ?_;clear hK K
 refine tn ?_
 refine Qd (st':=⟨[(1,.adr 0 0 0)],[(0,.mix 14 [(Mnd.cells true m_)])],1⟩) (Wk.r1 [(0,0)] (by simp [hP,hhOk,back,Cat.cells,Mnd.cells,UA,U1,IA,I1,LA,L1,BA,B1,EA,E1,E2,eB,eI,eL])) ?_
 refine Q8 ?_
 refine runQ hN fun K hK=>?_
 simp [-Q0,-Q9,-Q3,-Qa,-Q4,eL,eI,Q2,Q7,Qf,Cat.cells,Mnd.cells]
 repeat with_reducible refine sdQ ?_
 replace h:=bind_some h
 obtain ⟨v1,hv1,h⟩:=h
 refine Q5 (Q7V _ v1 hv1) (.cons (.aggL (.cons .val (.cons .lst (.cons .lst (.cons .lst (.cons .lst (.cons .val (.cons .lst (.cons .lst (.cons .lst (.cons .lst (.cons .lst (.cons .lst (.cons .lst (.cons .lst .nil))))))))))))))) .nil) ?_
 simp [-Q0,-Q9,-Q3,-Qa,-Q4,unk,unA,unE,unT,unC,flat,eL,eI,Q2,Q7,Qf,Cat.cells,Mnd.cells]
 repeat with_reducible refine sdQ ?_
 refine hK _ ?_;clear hK K
 refine tn ?_
 refine Qd (st':=⟨[(6,.own 0 0 v1.2.2.1.length),(7,.val (.int .i64 v1.2.2.2))],[(0,.row 1 (Ls v1.2.2.1))],1⟩) (Wk.r1 [(7,0)] (by simp [hP,hhOk,back,Cat.cells,Mnd.cells,UA,U1,IA,I1,LA,L1,BA,B1,EA,E1,E2,eB,eI,eL])) ?_
 refine Q8 ?_
 refine runQ hN fun K hK=>?_
 simp [-Q0,-Q9,-Q3,-Qa,-Q4,eL,eI,Q2,Q7,Qf,Cat.cells,Mnd.cells]
 repeat with_reducible refine sdQ ?_
 refine hK _ ?_;clear hK K
 refine tn ?_
 refine Qd (st':=⟨[(2,.own 0 0 v1.2.2.1.length),(3,.val (.int .i64 v1.2.2.2))],[(0,.row 1 (Ls v1.2.2.1))],1⟩) (Wk.r1 [(0,0)] (by simp [hP,hhOk,back,Cat.cells,Mnd.cells,UA,U1,IA,I1,LA,L1,BA,B1,EA,E1,E2,eB,eI,eL])) ?_
 refine Qn ?_
 have hr:=Option.some.inj h
 rw [← hr]
 refine ⟨_,(.tmp (.tmp .nil)),?_⟩
 refine ⟨(.one rfl rfl (.one rfl rfl .nil)),[.lst true 1 (Ls v1.2.2.1),.val (.int .i64 v1.2.2.2)],[0],by simp [Cat.cells,Mnd.cells,UA,U1,IA,I1,LA,L1,BA,B1,EA,E1,E2,eB,eI,eL],by simp,(UpL.refl _)⟩
end Go.Vc.T
namespace Go.Vc.T
open Go Go.Vc Go.Proofs
noncomputable def algS (m_:Mnd):Option (Int ⊕ (Int × List Int × List Int × List Int × List (List Int) × List XAlgebra × List (List Int) × (List (ByteArray × Int)))) :=
 (
  (Q15 m_).bind fun v2 =>
  if ¬ (v2=true) then
   some (Sum.inl 1)
  else
   (
    (QL m_).bind fun v5 =>
    if (v5.length:Int) > 8 then
     some (Sum.inl ())
    else
     (QI (σ:=List (List Int) × Int) (ε:=List (List Int)) (fun s41 =>
      if s41.2<(v5.length:Int) then
       (
        ass (0≤s41.2∧s41.2<(v5.length:Int)) <|
        (QI (σ:=List (List Int) × Int) (ε:=List (List Int)) (fun s59 =>
         if s59.2<(v5.length:Int) then
          (
           ass (0≤s59.2∧s59.2<(v5.length:Int)) <|
           (QK m_ (gx v5 s41.2) (gx v5 s59.2)).bind fun v63 =>
           (QI (σ:=List (List Int) × Int) (ε:=List (List Int)) (fun s68 =>
            if s68.2<(v63.length:Int) then
             ass (0≤s68.2∧s68.2<(v63.length:Int)) <|
             ass ((s68.1++[[s41.2,s59.2,ix v63 s68.2]]).length≤1073741824) <|
             ass (B64 (s68.2+1)) <|
             some (Ctl.next (s68.1++[[s41.2,s59.2,ix v63 s68.2]],s68.2+1))
            else
             some (Ctl.ret s68.1)) fuel (s59.1,0)).bind fun p68 =>
           some p68:Option (List (List Int))).bind fun b61 =>
          ass (B64 (s59.2+1)) <|
          some (Ctl.next (b61,s59.2+1))
         else
          some (Ctl.ret s59.1)) fuel (s41.1,0)).bind fun p59 =>
        some p59:Option (List (List Int))).bind fun b43 =>
       ass (B64 (s41.2+1)) <|
       some (Ctl.next (b43,s41.2+1))
      else
       some (Ctl.ret s41.1)) fuel ([],0)).bind fun b7 =>
     if (b7.length:Int) > 40 then
      some (Sum.inl ())
     else
      (Q2t b7).bind fun v76 =>
      (Q1M b7 0).bind fun v77 =>
      (Q1M b7 1).bind fun v78 =>
      (QI (σ:=List Int × Int) (ε:=List Int) (fun s86 =>
       if s86.2<(v5.length:Int) then
        ass (0≤s86.2∧s86.2<(v5.length:Int)) <|
        ass (0≤(gx v5 s86.2).x_∧(gx v5 s86.2).x_<(m_.f.s.id.length:Int)) <|
        (QU (⟨m_,(⟨(v5.length:Int),v77,v78,s86.1,[]⟩:Cat),v5,b7,v76⟩:XAlgebras) s86.2 s86.2 (ix m_.f.s.id ((gx v5 s86.2).x_))).bind fun v90 =>
        ass ((s86.1++[v90]).length≤1073741824) <|
        ass (B64 (s86.2+1)) <|
        some (Ctl.next (s86.1++[v90],s86.2+1))
       else
        some (Ctl.ret s86.1)) fuel ([],0)).bind fun b79 =>
      (
       (Qs (⟨(v5.length:Int),v77,v78,b79,[]⟩:Cat)).bind fun v94 =>
       ass (0≤v94∧v94≤1073741824) <|
       (QI (σ:=List (List Int) × Int) (ε:=List (List Int)) (fun s125 =>
        if s125.2<((List.replicate v94.toNat ([]:List Int)).length:Int) then
         (
          ass (0≤v94∧v94≤1073741824) <|
          ass (0≤s125.2∧s125.2<(s125.1.length:Int)) <|
          ass (0≤s125.2∧s125.2<((s125.1.set s125.2.toNat (List.replicate v94.toNat 0)).length:Int)) <|
          (QI (σ:=List (List Int) × Int) (ε:=List (List Int)) (fun s142 =>
           if s142.2<((rx (s125.1.set s125.2.toNat (List.replicate v94.toNat 0)) s125.2).length:Int) then
            (
             ass (0≤s125.2∧s125.2<(s142.1.length:Int)) <|
             ass (0≤s142.2∧s142.2<((rx s142.1 s125.2).length:Int)) <|
             ass (0≤s125.2∧s125.2<(v78.length:Int)) <|
             ass (0≤s142.2∧s142.2<(v77.length:Int)) <|
             if (ix v78 s125.2)=(ix v77 s142.2) then
              ass (0≤s125.2∧s125.2<((s142.1.set s125.2.toNat ((rx s142.1 s125.2).set s142.2.toNat (-1))).length:Int)) <|
              (QG s125.2 s142.2 (⟨m_,(⟨(v5.length:Int),v77,v78,b79,s142.1.set s125.2.toNat ((rx s142.1 s125.2).set s142.2.toNat (-1))⟩:Cat),v5,b7,v76⟩:XAlgebras) m_.f.s).bind fun v151 =>
              ass (0≤s142.2∧s142.2<((rx (s142.1.set s125.2.toNat ((rx s142.1 s125.2).set s142.2.toNat (-1))) s125.2).length:Int)) <|
              some ((s142.1.set s125.2.toNat ((rx s142.1 s125.2).set s142.2.toNat (-1))).set s125.2.toNat ((rx (s142.1.set s125.2.toNat ((rx s142.1 s125.2).set s142.2.toNat (-1))) s125.2).set s142.2.toNat v151))
             else
              some (s142.1.set s125.2.toNat ((rx s142.1 s125.2).set s142.2.toNat (-1))):Option (List (List Int))).bind fun b144 =>
            ass (B64 (s142.2+1)) <|
            some (Ctl.next (b144,s142.2+1))
           else
            some (Ctl.ret s142.1)) fuel (s125.1.set s125.2.toNat (List.replicate v94.toNat 0),0)).bind fun p142 =>
          some p142:Option (List (List Int))).bind fun b127 =>
         ass (B64 (s125.2+1)) <|
         some (Ctl.next (b127,s125.2+1))
        else
         some (Ctl.ret s125.1)) fuel (List.replicate v94.toNat ([]:List Int),0)).bind fun p125 =>
       some p125:Option (List (List Int))).bind fun v155 =>
      some (Sum.inr ((v5.length:Int),v77,v78,b79,v155,v5,b7,v76)):Option (Unit ⊕ (Int × List Int × List Int × List Int × List (List Int) × List XAlgebra × List (List Int) × (List (ByteArray × Int))))).bind fun v156 =>
   match v156 with
   | .inl v156 =>
    if ¬ (false=true) then
     some (Sum.inl 3)
    else
     some (Sum.inl 0)
   | .inr v156 =>
    if ¬ (true=true) then
     some (Sum.inl 3)
    else
     some (Sum.inr (v156.1,v156.2.1,v156.2.2.1,v156.2.2.2.1,v156.2.2.2.2.1,v156.2.2.2.2.2.1,v156.2.2.2.2.2.2.1,v156.2.2.2.2.2.2.2)):Option (Int ⊕ (Int × List Int × List Int × List Int × List (List Int) × List XAlgebra × List (List Int) × (List (ByteArray × Int)))))
theorem e_arrow {m:Mnd} (hm:m.Is) (h8:(av m).length≤8) {c:Cat} {i j f:Int} (h:[i,j,f]∈alL m):QU ⟨m,c,av m,alL m,plL (alL m)⟩ i j f=some (posL (alL m) [i,j,f]):=by
 unfold QU
 rw [e_key (by simp)]
 simp only [Option.bind_some]
 rw [bC_find (Q7Y hm h8) h]
theorem algS_no {m:Mnd} (hm:¬ m.Is):algS m=some (Sum.inl 1):=by
 unfold algS
 rw [Q6v,QB hm]
 simp
theorem algS_yes {m:Mnd} (hm:m.Is):algS m=some (if (av m).length≤8∧(alL m).length≤40 then Sum.inr (((av m).length:Int),(alL m).map (ix · 0),(alL m).map (ix · 1),(aC m).id,(aC m).cs,av m,alL m,plL (alL m)) else Sum.inl 3):=by
 obtain ⟨l1,l2,l3,l4,l5,l6,l7,l8,l9⟩:=hm.pre.len
 have hc:=hm.pre.f.s
 have hav:=Q81 hm
 have hlen:=al_bnd hm
 unfold algS
 rw [Q6v,QP hm]
 simp only [Option.bind_some,not_true_eq_false,if_false]
 rw [show QL m=some (av m) from e_allAlg hm]
 simp only [Option.bind_some]
 by_cases h8:(av m).length≤8
 case neg =>
  rw [if_pos (show ((av m).length:Int) > 8 by omega),if_neg (show ¬ ((av m).length≤8∧(alL m).length≤40) from fun h=>h8 h.1)]
  simp
 rw [if_neg (show ¬ ((av m).length:Int) > 8 by omega)]
 have hk:=Q7Y hm h8
 rw [Option.bind_assoc]
 refine QN (av m).length (fun i=>alN m i) (e:=alL m) rfl (by omega) (fun i hi=>?_) (by simp [alL];try omega) ?_
 ·have hL:=Q7g hm i
  have hL2:i * 12800≤320 * 12800:=Nat.mul_le_mul_right _ (by omega)
  simp only
  rw [if_pos (by omega),Qg (by omega)]
  simp only [Option.bind_assoc]
  refine QN (av m).length (fun k=>alN m i++alX m i k) (e:=alN m (i+1)) (by simp [alX]) (by omega) (fun k hk=>?_) (by simp [Q5W];try omega) ?_
  ·have hX:=Q7h m (by omega) i k
   have hX2:k * 40≤320 * 40:=Nat.mul_le_mul_right _ (by omega)
   simp only
   rw [if_pos (by omega),Qg (by omega),(e_amp hm (s:=i) (t:=k) (by omega) (by omega)).2]
   simp only [Option.bind_some,Option.bind_assoc]
   have hH:(amp m i k).length≤40:=Nat.le_trans (Q3O _ _ _ _ _) (by omega)
   refine QN (amp m i k).length (fun j=>(alN m i++alX m i k)++((amp m i k).take j).map fun f=>[(i:Int),(k:Int),f]) (e:=alN m i++alX m i (k+1)) (by simp) (by omega) (fun j hj=>?_) (by simp [Q5X,alF]) ?_
   ·have hs:(amp m i k).take (j+1)=(amp m i k).take j++[ix (amp m i k) j]:=by rw [List.take_succ_eq_append_getElem hj,Q1u _ _ hj]
    simp (disch:=omega) [Qg,B64,hs,hj];try omega
   try simp only [Option.bind_some]
   rw [Qg (by unfold B64;omega)]
  try simp only [Option.bind_some]
  rw [Qg (by unfold B64;omega)]
 by_cases h40:(alL m).length≤40
 case neg =>
  rw [if_pos (show ((alL m).length:Int) > 40 by omega),if_neg (show ¬ ((av m).length≤8∧(alL m).length≤40) from fun h=>h40 h.2)]
  simp
 rw [if_neg (show ¬ ((alL m).length:Int) > 40 by omega),if_pos (show (av m).length≤8∧(alL m).length≤40 from ⟨h8,h40⟩),e_places (by omega) fun x hx=>by rw [al3 x hx];omega]
 simp only [Option.bind_some]
 rw [(Q87 (L:=alL m) (k:=0) (by omega) (by omega) fun x hx=>by rw [al3 x hx];omega).1,(Q87 (L:=alL m) (k:=1) (by omega) (by omega) fun x hx=>by rw [al3 x hx];omega).1]
 simp only [Option.bind_some,Option.bind_assoc]
 refine Q8y (av m).length (fun s=>posL (alL m) [(s:Int),(s:Int),ix m.f.s.id (gx (av m) s).x_]) (e:=(aC m).id) (by omega) (fun i hi=>?_) (by simp [aC,bC]) ?_
 ·have hx:=(gxm hm (s:=i) (by omega)).x
  simp only
  rw [if_pos (by omega),Qg (by omega),Qg (by omega),e_arrow hm h8 (mem_al.2 ⟨i,i,_,by omega,by omega,al_one hm (by omega),rfl⟩)]
  rfl
 unfold Qs
 simp only [Option.bind_some,List.length_map,Int.toNat_natCast]
 rw [Qg (by omega),Option.bind_assoc]
 refine QN (alL m).length (fun i=>mixr (alL m).length i (fun i=>tab (alL m).length (bRow (alL m) (aCmp m) i)) []) (e:=(aC m).cs) (Q6S _ _ _).symm (by omega) (fun i hi=>?_) (by simp [Q8o];rfl) (by simp)
 obtain ⟨x,y,f,hx,hy,hf,hi3⟩:=Q7Z hi
 have fa:=(Q3S hf).1
 have ei:=fun k=>ix_map hi k
 simp only
 rw [if_pos (by simp;omega),Qg (by omega),Qg (by simp;omega),Qg (by simp;omega),Option.bind_assoc]
 simp only [Int.toNat_natCast]
 rw [rx_set (by simp;omega)]
 refine QN (alL m).length (fun k=>(mixr (alL m).length i (fun i=>tab (alL m).length (bRow (alL m) (aCmp m) i)) []).set i (mixr (alL m).length k (bRow (alL m) (aCmp m) i) 0)) (e:=(mixr (alL m).length i (fun i=>tab (alL m).length (bRow (alL m) (aCmp m) i)) []).set i (tab (alL m).length (bRow (alL m) (aCmp m) i))) (by simp [Q6S]) (by omega) (fun k hk2=>?_) (by simp [Q8o]) ?_
 ·obtain ⟨y',z,g,hy',hz,hg,hj3⟩:=Q7Z hk2
  have ga:=(Q3S hg).1
  have ek:=fun q=>ix_map hk2 q
  have hl:i<(mixr (alL m).length i (fun i=>tab (alL m).length (bRow (alL m) (aCmp m) i)) []).length:=by simpa using hi
  simp only
  rw [if_pos (by simp;omega)]
  simp only [Int.toNat_natCast,rx_set hl,List.set_set]
  rw [Qg (by simp;omega),Qg (by simp;omega),Qg (by simp;omega),Qg (by simp;omega),ei,ek]
  by_cases e:ix (rx (alL m) i) 1=ix (rx (alL m) k) 0
  ·rw [if_pos e,Qg (by simp;omega)]
   have e':y=y':=by rw [hi3,hj3] at e;simpa [ix] using e
   subst e'
   have q:bRow (alL m) (aCmp m) i k=posL (alL m) [ix (rx (alL m) i) 0,ix (rx (alL m) k) 1,ix (rx m.f.s.cs (ix (rx (alL m) i) 2)) (ix (rx (alL m) k) 2)]:=by unfold bRow;rw [if_pos e];rfl
   have b:=Ar.thn hc (f:=ix (rx (alL m) i) 2) (g:=ix (rx (alL m) k) 2) (by rw [hi3];exact fa) (by rw [hj3];exact ga)
   have hin:[ix (rx (alL m) i) 0,ix (rx (alL m) k) 1,ix (rx m.f.s.cs (ix (rx (alL m) i) 2)) (ix (rx (alL m) k) 2)]∈alL m:=by
    rw [hi3,hj3]
    exact mem_al.2 ⟨x,z,_,hx,hz,al_two hm hx hy hz hf hg,rfl⟩
   unfold QG
   simp only
   rw [Qg (by omega),Qg (by omega),Qg (by rw [hi3];simp),Qg (by rw [hj3];simp),Qg (by rw [hi3];simp),Qg (by rw [hj3];simp),b.2]
   simp only [Option.bind_some]
   rw [e_arrow hm h8 hin]
   simp only [Option.bind_some]
   rw [Qg (by simp;omega)]
   simp only [Option.bind_some]
   rw [Qg (by unfold B64;omega),← Q6a,q]
  have q:bRow (alL m) (aCmp m) i k = -1:=by unfold bRow;rw [if_neg e]
  rw [if_neg e]
  simp only [Option.bind_some]
  rw [Qg (by unfold B64;omega),← Q6a,q]
 simp only [Option.bind_some]
 rw [Qg (by unfold B64;omega),← Q6a]
theorem aC_fr (m:Mnd):(aC m).fr.length=(alL m).length∧(aC m).n=((av m).length:Int):=by simp [aC,bC]
theorem e_aCode (m:Mnd):(m.Is∧(av m).length≤8∧(alL m).length≤40∧Q23 m=some (aC m,avL m,alL m,0)∧algS m=some (Sum.inr (((av m).length:Int),(alL m).map (ix · 0),(alL m).map (ix · 1),(aC m).id,(aC m).cs,av m,alL m,plL (alL m)))) ∨
  ∃ z:Int,(z=1∨z=3)∧Q23 m=some (zeroC,[],[],z)∧algS m=some (Sum.inl z):=by
 unfold Q23
 rw [e_l16Is]
 by_cases hm:m.Is
 case neg=>exact .inr ⟨1,.inl rfl,by rw [QB hm];simp [zeroC],algS_no hm⟩
 obtain ⟨e1,e2⟩:=aC_fr m
 rw [algS_yes hm]
 simp only [QP hm,Option.bind_some,not_true_eq_false,if_false,Q8F hm]
 by_cases h:(av m).length≤8∧(alL m).length≤40
 ·refine .inl ⟨hm,h.1,h.2,?_,by rw [if_pos h]⟩
  rw [if_pos h,Q64,QP (by omega)]
  simp
 refine .inr ⟨3,.inr rfl,?_,by rw [if_neg h]⟩
 rw [if_neg h,Q64,QB (by simp only [aC,bC,List.length_map];omega)]
 simp [zeroC]
theorem Q59 (m:Mnd):∃ r,Q1C m=some r∧Q1B m=some r∧(r.1.length≤1048576∧∀ x∈r.1,x.length≤1048576)∧sumL r.1≤1000:=by
 have hu:Q1B m=(algS m).bind fun v=>match v with
  | .inl v=>if ¬ (v=0) then some ([],v) else ass (False) <| none
  | .inr v=>if ¬ ((0:Int)=0) then some ([],0) else some (v.2.2.2.2.2.2.1,0):=rfl
 rw [hu]
 unfold Q1C
 rcases e_aCode m with ⟨hm,h8,h40,h1,h2⟩|⟨z,hz,h1,h2⟩
 ·rw [h1,h2]
  have h5:∀ x∈alL m,x.length≤3:=fun x hx=>by rw [al3 x hx];omega
  have h6:=sumL_b h5
  exact ⟨(alL m,0),rfl,by simp,⟨by simp only;omega,fun x hx=>by have:=h5 x hx;omega⟩,by simp only;omega⟩
 rw [h1,h2]
 exact ⟨([],z),rfl,by simp only [Option.bind_some];rw [if_pos (by omega)],by simp,by simp [sumL]⟩
end Go.Vc.T
