/- A part of the proof: a verified generator of conditions, and what each function of the program does. -/
import Derived.Test.YtfinipknacaojaaGreatR10
set_option maxRecDepth 100000
set_option maxHeartbeats 4000000
set_option linter.unusedSimpArgs false
set_option linter.unusedVariables false

namespace Go.Vc.T
open Go Go.Vc Go.Proofs
attribute [local simp] Q1 Q6 XAlgebra.cells XAlgebras.cells
noncomputable def Q1k (m_:Mnd):Option (Cat × Int) :=
 (
  (Q15 m_).bind fun v2 =>
  if ¬ (v2=true) then
   some (Sum.inl 1)
  else
   (
    (QL m_).bind fun v5 =>
    if (v5.length:Int) > 8 then
     some (Sum.inl ())
    else
     (QI (σ:=List (List Int) × Int) (ε:=List (List Int)) (fun s41 =>
      if s41.2<(v5.length:Int) then
       (
        ass (0≤s41.2∧s41.2<(v5.length:Int)) <|
        (QI (σ:=List (List Int) × Int) (ε:=List (List Int)) (fun s59 =>
         if s59.2<(v5.length:Int) then
          (
           ass (0≤s59.2∧s59.2<(v5.length:Int)) <|
           (QK m_ (gx v5 s41.2) (gx v5 s59.2)).bind fun v63 =>
           (QI (σ:=List (List Int) × Int) (ε:=List (List Int)) (fun s68 =>
            if s68.2<(v63.length:Int) then
             ass (0≤s68.2∧s68.2<(v63.length:Int)) <|
             ass ((s68.1++[[s41.2,s59.2,ix v63 s68.2]]).length≤1073741824) <|
             ass (B64 (s68.2+1)) <|
             some (Ctl.next (s68.1++[[s41.2,s59.2,ix v63 s68.2]],s68.2+1))
            else
             some (Ctl.ret s68.1)) fuel (s59.1,0)).bind fun p68 =>
           some p68:Option (List (List Int))).bind fun b61 =>
          ass (B64 (s59.2+1)) <|
          some (Ctl.next (b61,s59.2+1))
         else
          some (Ctl.ret s59.1)) fuel (s41.1,0)).bind fun p59 =>
        some p59:Option (List (List Int))).bind fun b43 =>
       ass (B64 (s41.2+1)) <|
       some (Ctl.next (b43,s41.2+1))
      else
       some (Ctl.ret s41.1)) fuel ([],0)).bind fun b7 =>
     if (b7.length:Int) > 40 then
      some (Sum.inl ())
     else
      (Q2t b7).bind fun v76 =>
      (Q1M b7 0).bind fun v77 =>
      (Q1M b7 1).bind fun v78 =>
      (QI (σ:=List Int × Int) (ε:=List Int) (fun s86 =>
       if s86.2<(v5.length:Int) then
        ass (0≤s86.2∧s86.2<(v5.length:Int)) <|
        ass (0≤(gx v5 s86.2).x_∧(gx v5 s86.2).x_<(m_.f.s.id.length:Int)) <|
        (QU (⟨m_,(⟨(v5.length:Int),v77,v78,s86.1,[]⟩:Cat),v5,b7,v76⟩:XAlgebras) s86.2 s86.2 (ix m_.f.s.id ((gx v5 s86.2).x_))).bind fun v90 =>
        ass ((s86.1++[v90]).length≤1073741824) <|
        ass (B64 (s86.2+1)) <|
        some (Ctl.next (s86.1++[v90],s86.2+1))
       else
        some (Ctl.ret s86.1)) fuel ([],0)).bind fun b79 =>
      (
       (Qs (⟨(v5.length:Int),v77,v78,b79,[]⟩:Cat)).bind fun v94 =>
       ass (0≤v94∧v94≤1073741824) <|
       (QI (σ:=List (List Int) × Int) (ε:=List (List Int)) (fun s125 =>
        if s125.2<((List.replicate v94.toNat ([]:List Int)).length:Int) then
         (
          ass (0≤v94∧v94≤1073741824) <|
          ass (0≤s125.2∧s125.2<(s125.1.length:Int)) <|
          ass (0≤s125.2∧s125.2<((s125.1.set s125.2.toNat (List.replicate v94.toNat 0)).length:Int)) <|
          (QI (σ:=List (List Int) × Int) (ε:=List (List Int)) (fun s142 =>
           if s142.2<((rx (s125.1.set s125.2.toNat (List.replicate v94.toNat 0)) s125.2).length:Int) then
            (
             ass (0≤s125.2∧s125.2<(s142.1.length:Int)) <|
             ass (0≤s142.2∧s142.2<((rx s142.1 s125.2).length:Int)) <|
             ass (0≤s125.2∧s125.2<(v78.length:Int)) <|
             ass (0≤s142.2∧s142.2<(v77.length:Int)) <|
             if (ix v78 s125.2)=(ix v77 s142.2) then
              ass (0≤s125.2∧s125.2<((s142.1.set s125.2.toNat ((rx s142.1 s125.2).set s142.2.toNat (-1))).length:Int)) <|
              (QG s125.2 s142.2 (⟨m_,(⟨(v5.length:Int),v77,v78,b79,s142.1.set s125.2.toNat ((rx s142.1 s125.2).set s142.2.toNat (-1))⟩:Cat),v5,b7,v76⟩:XAlgebras) m_.f.s).bind fun v151 =>
              ass (0≤s142.2∧s142.2<((rx (s142.1.set s125.2.toNat ((rx s142.1 s125.2).set s142.2.toNat (-1))) s125.2).length:Int)) <|
              some ((s142.1.set s125.2.toNat ((rx s142.1 s125.2).set s142.2.toNat (-1))).set s125.2.toNat ((rx (s142.1.set s125.2.toNat ((rx s142.1 s125.2).set s142.2.toNat (-1))) s125.2).set s142.2.toNat v151))
             else
              some (s142.1.set s125.2.toNat ((rx s142.1 s125.2).set s142.2.toNat (-1))):Option (List (List Int))).bind fun b144 =>
            ass (B64 (s142.2+1)) <|
            some (Ctl.next (b144,s142.2+1))
           else
            some (Ctl.ret s142.1)) fuel (s125.1.set s125.2.toNat (List.replicate v94.toNat 0),0)).bind fun p142 =>
          some p142:Option (List (List Int))).bind fun b127 =>
         ass (B64 (s125.2+1)) <|
         some (Ctl.next (b127,s125.2+1))
        else
         some (Ctl.ret s125.1)) fuel (List.replicate v94.toNat ([]:List Int),0)).bind fun p125 =>
       some p125:Option (List (List Int))).bind fun v155 =>
      some (Sum.inr ((v5.length:Int),v77,v78,b79,v155,v5,b7,v76)):Option (Unit ⊕ (Int × List Int × List Int × List Int × List (List Int) × List XAlgebra × List (List Int) × (List (ByteArray × Int))))).bind fun v156 =>
   match v156 with
   | .inl v156 =>
    if ¬ (false=true) then
     some (Sum.inl 3)
    else
     some (Sum.inl 0)
   | .inr v156 =>
    if ¬ (true=true) then
     some (Sum.inl 3)
    else
     some (Sum.inr (v156.1,v156.2.1,v156.2.2.1,v156.2.2.2.1,v156.2.2.2.2.1,v156.2.2.2.2.2.1,v156.2.2.2.2.2.2.1,v156.2.2.2.2.2.2.2)):Option (Int ⊕ (Int × List Int × List Int × List Int × List (List Int) × List XAlgebra × List (List Int) × (List (ByteArray × Int))))).bind fun v159 =>
 match v159 with
 | .inl v159 =>
  if ¬ (v159=0) then
   some ((⟨0,[],[],[],[]⟩:Cat),v159)
  else
   ass (False) <|
   none
 | .inr v159 =>
  if ¬ (0=0) then
   some ((⟨0,[],[],[],[]⟩:Cat),0)
  else
   some ((⟨v159.1,v159.2.1,v159.2.2.1,v159.2.2.2.1,v159.2.2.2.2.1⟩:Cat),0)
theorem Q42 (m_:Mnd) (r:Cat × Int) (h:Q1k m_=some r):Contract Tryz.prog 24 [.agg (m_.cells true)] (.tup [.agg (r.1.cells true),.val (.int .i64 r.2)]):=by
 refine Qk (rvs:=[.cell 2 31,.tmp 3]) (rs:=[.agg (r.1.cells true),.val (.int .i64 r.2)]) Tryz.func24 rfl rfl rfl rfl (by simp [Tryz.f24]) fun F hN hP=>?_
 unfold Q1k at h
 refine Q8 ?_
 refine Qw [1] mo (by rw [hN];decide) fun K hK=>?_
 simp [-Q0,-Q9,-Q3,-Qa,-Q4,eL,eI,Q2,Q7,Qf,Q1,Q6,Cat.cells,Mnd.cells,XAlgebra.cells,XAlgebras.cells]
 repeat with_reducible refine sdQ ?_
 refine hK _ ?_;clear hK K
 refine tn ?_
 refine Qd (st':=⟨[(1,.rptr (Mnd.cells true m_)),(2,.adr 0 0 0)],[(0,.mix 5 [[.val (.int .i64 0),.val (.slice none 0 0),.val (.slice none 0 0),.val (.slice none 0 0),.val (.slice none 0 0)]])],1⟩) (Wk.r1 [(0,0)] (by simp [hP,hhOk,back,Cat.cells,Mnd.cells,XAlgebra.cells,XAlgebras.cells,UA,U1,IA,I1,LA,L1,BA,B1,EA,E1,E2,eB,eI,eL,Qe _ Q1 _ (fun _=>rfl),Qe _ Q6 _ (fun _=>rfl)])) ?_
 refine Q8 ?_
 refine Q7R [] mo (by rw [hN];decide) fun K hK=>?_
 simp [-Q0,-Q9,-Q3,-Qa,-Q4,eL,eI,Q2,Q7,Qf,Q1,Q6,Cat.cells,Mnd.cells,XAlgebra.cells,XAlgebras.cells]
 repeat with_reducible refine sdQ ?_
 replace h:=bind_some h
 obtain ⟨v159,hv159,h⟩:=h
 refine Q5Y (fz:=[]) (Q3Y (ts:=[2,3]) (e:=(match (generalizing:=false) v159 with|.inl v159=>{ v:=.tup [.val (.pointer none),.val (.int .i64 v159)],set:=[],del:=[],new:=[],cnt:=0 }|.inr v159=>{ v:=.tup [.adr 1 0 0,.val (.int .i64 0)],set:=[],del:=[],new:=[(1,.mix 9 [[.rptr (Mnd.cells true m_),.val (.int .i64 v159.1),.own 2 0 v159.2.1.length,.own 3 0 v159.2.2.1.length,.own 4 0 v159.2.2.2.1.length,.own 5 0 v159.2.2.2.2.1.length,.lst true 1 (Es Q1 v159.2.2.2.2.2.1),.own 6 0 v159.2.2.2.2.2.2.1.length,.cmap .str (Msi v159.2.2.2.2.2.2.2)]]),(2,.row 1 (Is v159.2.1)),(3,.row 1 (Is v159.2.2.1)),(4,.row 1 (Is v159.2.2.2.1)),(5,.row 1 (Ls v159.2.2.2.2.1)),(6,.row 1 (Ls v159.2.2.2.2.2.2.1))],cnt:=6 })) Tryz.func61 rfl rfl rfl (by simp [Tryz.f61]) (by simp) (fineI (by rcases v159 with v159|v159<;>simp)) (newI (by rcases v159 with v159|v159<;>rfl)) fun F hN hP=>?_) ?_
 ·clear h
  have h:=hv159
  clear hv159
  refine Q8 ?_
  refine Qw [] mo (by rw [hN];decide) fun K hK=>?_
  simp [-Q0,-Q9,-Q3,-Qa,-Q4,eL,eI,Q2,Q7,Qf,Q1,Q6,Cat.cells,Mnd.cells,XAlgebra.cells,XAlgebras.cells]
  repeat with_reducible refine sdQ ?_
  refine hK _ ?_;clear hK K
  refine tn ?_
  refine Qd (st':=⟨[(0,.rptr (Mnd.cells true m_))],[(0,.mix 5 [[.val (.int .i64 0),.val (.slice none 0 0),.val (.slice none 0 0),.val (.slice none 0 0),.val (.slice none 0 0)]])],1⟩) (Wk.rP _ [(0,0)] hP (by rfl) (by simp [hhOk,back,Cat.cells,Mnd.cells,XAlgebra.cells,XAlgebras.cells,UA,U1,IA,I1,LA,L1,BA,B1,EA,E1,E2,eB,eI,eL,Qe _ Q1 _ (fun _=>rfl),Qe _ Q6 _ (fun _=>rfl)])) ?_
  refine Q8 ?_
  refine Q8 ?_
  refine Qw [] mo (by rw [hN];decide) fun K hK=>?_
  simp [-Q0,-Q9,-Q3,-Qa,-Q4,eL,eI,Q2,Q7,Qf,Q1,Q6,Cat.cells,Mnd.cells,XAlgebra.cells,XAlgebras.cells]
  repeat with_reducible refine sdQ ?_
  replace h:=bind_some h
  obtain ⟨v2,hv2,h⟩:=h
  refine QZ (fz:=[]) (Q4w _ v2 hv2) (.cons (.preT (by simp [Mnd.cells])) .nil) ?_
  simp [-Q0,-Q9,-Q3,-Qa,-Q4,unk,unA,unE,unT,unC,flat,eL,eI,Q2,Q7,Qf,Q1,Q6,Cat.cells,Mnd.cells,XAlgebra.cells,XAlgebras.cells]
  repeat with_reducible refine sdQ ?_
  refine hK _ ?_;clear hK K
  refine tn ?_
  refine Qd (st':=⟨[(0,.rptr (Mnd.cells true m_)),(8,.val (.bool (!v2)))],[(0,.mix 5 [[.val (.int .i64 0),.val (.slice none 0 0),.val (.slice none 0 0),.val (.slice none 0 0),.val (.slice none 0 0)]])],1⟩) (Wk.rP _ [(0,0)] hP (by rfl) (by simp [hhOk,back,Cat.cells,Mnd.cells,XAlgebra.cells,XAlgebras.cells,UA,U1,IA,I1,LA,L1,BA,B1,EA,E1,E2,eB,eI,eL,Qe _ Q1 _ (fun _=>rfl),Qe _ Q6 _ (fun _=>rfl)])) ?_
  refine Qi rfl (fun g=>?_) fun g=>?_
  ·have g3:¬ (v2=true):=gQ
   clear g
   replace h:=if_l g3 h
   refine Q8 ?_
   refine Qw [] mo (by rw [hN];decide) fun K hK=>?_
   simp [-Q0,-Q9,-Q3,-Qa,-Q4,eL,eI,Q2,Q7,Qf,Q1,Q6,Cat.cells,Mnd.cells,XAlgebra.cells,XAlgebras.cells]
   repeat with_reducible refine sdQ ?_
   refine hK _ ?_;clear hK K
   refine tn ?_
   refine Qd (st':=⟨[(2,.val (.pointer none)),(3,.val (.int .i64 1))],[(0,.mix 5 [[.val (.int .i64 0),.val (.slice none 0 0),.val (.slice none 0 0),.val (.slice none 0 0),.val (.slice none 0 0)]])],1⟩) (Wk.rP _ [(0,0)] hP (by rfl) (by simp [hhOk,back,Cat.cells,Mnd.cells,XAlgebra.cells,XAlgebras.cells,UA,U1,IA,I1,LA,L1,BA,B1,EA,E1,E2,eB,eI,eL,Qe _ Q1 _ (fun _=>rfl),Qe _ Q6 _ (fun _=>rfl)])) ?_
   refine Qn ?_
   refine tr ?_
   cases h
   try dsimp only
   first|refine iw_r (st':=⟨[(2,.val (.pointer none)),(3,.val (.int .i64 1))],[(0,.mix 5 [[.val (.int .i64 0),.val (.slice none 0 0),.val (.slice none 0 0),.val (.slice none 0 0),.val (.slice none 0 0)]])],1⟩) ?_ ?_|refine iw_n (st':=⟨[(2,.val (.pointer none)),(3,.val (.int .i64 1))],[(0,.mix 5 [[.val (.int .i64 0),.val (.slice none 0 0),.val (.slice none 0 0),.val (.slice none 0 0),.val (.slice none 0 0)]])],1⟩) ?_ ?_
   ·exact Wk.rP _ [(0,0)] hP (by rfl) (by simp [hhOk,back,Cat.cells,Mnd.cells,XAlgebra.cells,XAlgebras.cells,UA,U1,IA,I1,LA,L1,BA,B1,EA,E1,E2,eB,eI,eL,Qe _ Q1 _ (fun _=>rfl),Qe _ Q6 _ (fun _=>rfl)])
   exact ⟨by simp [Q1e],by simp,by simp [Cat.cells,Mnd.cells,XAlgebra.cells,XAlgebras.cells]⟩
  have g3:¬ (¬ (v2=true)):=gQ
  clear g
  replace h:=if_r g3 h
  refine Qj ?_
  refine tn ?_
  refine Q8 ?_
  refine Q7R [] mo (by rw [hN];decide) fun K hK=>?_
  simp [-Q0,-Q9,-Q3,-Qa,-Q4,eL,eI,Q2,Q7,Qf,Q1,Q6,Cat.cells,Mnd.cells,XAlgebra.cells,XAlgebras.cells]
  repeat with_reducible refine sdQ ?_
  replace h:=bind_some h
  obtain ⟨v156,hv156,h⟩:=h
  refine Q5Y (fz:=[]) (Q3Y (ts:=[2,3]) (e:=(match (generalizing:=false) v156 with|.inl v156=>{ v:=.tup [.val (.pointer none),.val (.bool false)],set:=[],del:=[],new:=[],cnt:=0 }|.inr v156=>{ v:=.tup [.adr 1 0 0,.val (.bool true)],set:=[],del:=[],new:=[(1,.mix 9 [[.rptr (Mnd.cells true m_),.val (.int .i64 v156.1),.own 2 0 v156.2.1.length,.own 3 0 v156.2.2.1.length,.own 4 0 v156.2.2.2.1.length,.own 5 0 v156.2.2.2.2.1.length,.lst true 1 (Es Q1 v156.2.2.2.2.2.1),.own 6 0 v156.2.2.2.2.2.2.1.length,.cmap .str (Msi v156.2.2.2.2.2.2.2)]]),(2,.row 1 (Is v156.2.1)),(3,.row 1 (Is v156.2.2.1)),(4,.row 1 (Is v156.2.2.2.1)),(5,.row 1 (Ls v156.2.2.2.2.1)),(6,.row 1 (Ls v156.2.2.2.2.2.2.1))],cnt:=6 })) Tryz.func73 rfl rfl rfl (by simp [Tryz.f73]) (by simp) (fineI (by rcases v156 with v156|v156<;>simp)) (newI (by rcases v156 with v156|v156<;>rfl)) fun F hN hP=>?_) ?_
  ·clear h
   have h:=hv156
   clear hv156
   refine Q8 ?_
   refine Qw [] mo (by rw [hN];decide) fun K hK=>?_
   simp [-Q0,-Q9,-Q3,-Qa,-Q4,eL,eI,Q2,Q7,Qf,Q1,Q6,Cat.cells,Mnd.cells,XAlgebra.cells,XAlgebras.cells]
   repeat with_reducible refine sdQ ?_
   refine hK _ ?_;clear hK K
   refine tn ?_
   refine Qd (st':=⟨[(0,.rptr (Mnd.cells true m_))],[(0,.mix 5 [[.val (.int .i64 0),.val (.slice none 0 0),.val (.slice none 0 0),.val (.slice none 0 0),.val (.slice none 0 0)]])],1⟩) (Wk.rP _ [(0,0)] hP (by rfl) (by simp [hhOk,back,Cat.cells,Mnd.cells,XAlgebra.cells,XAlgebras.cells,UA,U1,IA,I1,LA,L1,BA,B1,EA,E1,E2,eB,eI,eL,Qe _ Q1 _ (fun _=>rfl),Qe _ Q6 _ (fun _=>rfl)])) ?_
   refine Q8 ?_
   refine Qw [] mo (by rw [hN];decide) fun K hK=>?_
   simp [-Q0,-Q9,-Q3,-Qa,-Q4,eL,eI,Q2,Q7,Qf,Q1,Q6,Cat.cells,Mnd.cells,XAlgebra.cells,XAlgebras.cells]
   repeat with_reducible refine sdQ ?_
   replace h:=bind_some h
   obtain ⟨v5,hv5,h⟩:=h
   refine Q6n (fz:=[]) true (Q3z _ v5 hv5) (PurK.ofN (.cons (.preT (by simp [Mnd.cells])) .nil)) ?_
   simp [-Q0,-Q9,-Q3,-Qa,-Q4,unk,unA,unE,unT,unC,flat,eL,eI,Q2,Q7,Qf,Q1,Q6,Cat.cells,Mnd.cells,XAlgebra.cells,XAlgebras.cells]
   repeat with_reducible refine sdQ ?_
   refine hK _ ?_;clear hK K
   refine tn ?_
   refine Qd (st':=⟨[(0,.rptr (Mnd.cells true m_)),(4,.adr 1 0 0)],[(0,.mix 5 [[.val (.int .i64 0),.val (.slice none 0 0),.val (.slice none 0 0),.val (.slice none 0 0),.val (.slice none 0 0)]]),(1,.mix 1 [[.adr 2 0 0]]),(2,.mix 9 [[.rptr (Mnd.cells true m_),.val (.int .i64 0),.val (.slice none 0 0),.val (.slice none 0 0),.val (.slice none 0 0),.val (.slice none 0 0),.lst true 1 (Es Q1 v5),.val (.slice none 0 0),.val (.map none)]])],3⟩) (Wk.rP _ [(0,0),(2,1),(1,2)] hP (by rfl) (by simp [hhOk,back,Cat.cells,Mnd.cells,XAlgebra.cells,XAlgebras.cells,UA,U1,IA,I1,LA,L1,BA,B1,EA,E1,E2,eB,eI,eL,Qe _ Q1 _ (fun _=>rfl),Qe _ Q6 _ (fun _=>rfl)])) ?_
   refine Q8 ?_
   refine Q8 ?_
   refine Qw [] mo (by rw [hN];decide) fun K hK=>?_
   simp [-Q0,-Q9,-Q3,-Qa,-Q4,eL,eI,Q2,Q7,Qf,Q1,Q6,Cat.cells,Mnd.cells,XAlgebra.cells,XAlgebras.cells]
   repeat with_reducible refine sdQ ?_
   refine hK _ ?_;clear hK K
   refine tn ?_
   refine Qd (st':=⟨[(0,.rptr (Mnd.cells true m_)),(4,.adr 1 0 0),(24,.val (.bool (decide ((v5.length:Int) > 8))))],[(0,.mix 5 [[.val (.int .i64 0),.val (.slice none 0 0),.val (.slice none 0 0),.val (.slice none 0 0),.val (.slice none 0 0)]]),(1,.mix 1 [[.adr 2 0 0]]),(2,.mix 9 [[.rptr (Mnd.cells true m_),.val (.int .i64 0),.val (.slice none 0 0),.val (.slice none 0 0),.val (.slice none 0 0),.val (.slice none 0 0),.lst true 1 (Es Q1 v5),.val (.slice none 0 0),.val (.map none)]])],3⟩) (Wk.rP _ [(0,0),(1,1),(2,2)] hP (by rfl) (by simp [hhOk,back,Cat.cells,Mnd.cells,XAlgebra.cells,XAlgebras.cells,UA,U1,IA,I1,LA,L1,BA,B1,EA,E1,E2,eB,eI,eL,Qe _ Q1 _ (fun _=>rfl),Qe _ Q6 _ (fun _=>rfl)])) ?_
   refine Qi rfl (fun g=>?_) fun g=>?_
   ·have g6:(v5.length:Int) > 8:=gQ
    clear g
    replace h:=if_l g6 h
    refine Q8 ?_
    refine Qw [] mo (by rw [hN];decide) fun K hK=>?_
    simp [-Q0,-Q9,-Q3,-Qa,-Q4,eL,eI,Q2,Q7,Qf,Q1,Q6,Cat.cells,Mnd.cells,XAlgebra.cells,XAlgebras.cells]
    repeat with_reducible refine sdQ ?_
    refine hK _ ?_;clear hK K
    refine tn ?_
    refine Qd (st':=⟨[(2,.val (.pointer none)),(3,.val (.bool false))],[(0,.mix 5 [[.val (.int .i64 0),.val (.slice none 0 0),.val (.slice none 0 0),.val (.slice none 0 0),.val (.slice none 0 0)]])],1⟩) (Wk.rP _ [(0,0)] hP (by rfl) (by simp [hhOk,back,Cat.cells,Mnd.cells,XAlgebra.cells,XAlgebras.cells,UA,U1,IA,I1,LA,L1,BA,B1,EA,E1,E2,eB,eI,eL,Qe _ Q1 _ (fun _=>rfl),Qe _ Q6 _ (fun _=>rfl)])) ?_
    refine Qn ?_
    refine tr ?_
    cases h
    try dsimp only
    first|refine iw_r (st':=⟨[(2,.val (.pointer none)),(3,.val (.bool false))],[(0,.mix 5 [[.val (.int .i64 0),.val (.slice none 0 0),.val (.slice none 0 0),.val (.slice none 0 0),.val (.slice none 0 0)]])],1⟩) ?_ ?_|refine iw_n (st':=⟨[(2,.val (.pointer none)),(3,.val (.bool false))],[(0,.mix 5 [[.val (.int .i64 0),.val (.slice none 0 0),.val (.slice none 0 0),.val (.slice none 0 0),.val (.slice none 0 0)]])],1⟩) ?_ ?_
    ·exact Wk.rP _ [(0,0)] hP (by rfl) (by simp [hhOk,back,Cat.cells,Mnd.cells,XAlgebra.cells,XAlgebras.cells,UA,U1,IA,I1,LA,L1,BA,B1,EA,E1,E2,eB,eI,eL,Qe _ Q1 _ (fun _=>rfl),Qe _ Q6 _ (fun _=>rfl)])
    exact ⟨by simp [Q1e],by simp,by simp [Cat.cells,Mnd.cells,XAlgebra.cells,XAlgebras.cells]⟩
   have g6:¬ ((v5.length:Int) > 8):=gQ
   clear g
   replace h:=if_r g6 h
   refine Qj ?_
   refine tn ?_
   refine Q8 ?_
   refine Q8 ?_
   refine Qw [] mo (by rw [hN];decide) fun K hK=>?_
   simp [-Q0,-Q9,-Q3,-Qa,-Q4,eL,eI,Q2,Q7,Qf,Q1,Q6,Cat.cells,Mnd.cells,XAlgebra.cells,XAlgebras.cells]
   repeat with_reducible refine sdQ ?_
   refine hK _ ?_;clear hK K
   refine tn ?_
   refine Qd (st':=⟨[(0,.rptr (Mnd.cells true m_)),(4,.adr 1 0 0),(28,.lst true 1 (Es Q1 v5)),(29,.val (.int .i64 (v5.length:Int))),(30,.val (.int .i64 0))],[(0,.mix 5 [[.val (.int .i64 0),.val (.slice none 0 0),.val (.slice none 0 0),.val (.slice none 0 0),.val (.slice none 0 0)]]),(1,.mix 1 [[.adr 2 0 0]]),(2,.mix 9 [[.rptr (Mnd.cells true m_),.val (.int .i64 0),.val (.slice none 0 0),.val (.slice none 0 0),.val (.slice none 0 0),.val (.slice none 0 0),.lst true 1 (Es Q1 v5),.val (.slice none 0 0),.val (.map none)]])],3⟩) (Wk.rP _ [(0,0),(1,1),(2,2)] hP (by rfl) (by simp [hhOk,back,Cat.cells,Mnd.cells,XAlgebra.cells,XAlgebras.cells,UA,U1,IA,I1,LA,L1,BA,B1,EA,E1,E2,eB,eI,eL,Qe _ Q1 _ (fun _=>rfl),Qe _ Q6 _ (fun _=>rfl)])) ?_
   replace h:=bind_some h
   obtain ⟨e7,h,h7⟩:=h
   refine Qp (fun b7:List (List Int)=>⟨[(0,.rptr (Mnd.cells true m_)),(4,.adr 1 0 0)],[(0,.mix 5 [[.val (.int .i64 0),.val (.slice none 0 0),.val (.slice none 0 0),.val (.slice none 0 0),.val (.slice none 0 0)]]),(1,.mix 1 [[.adr 2 0 0]]),(2,.mix 9 [[.rptr (Mnd.cells true m_),.val (.int .i64 0),.val (.slice none 0 0),.val (.slice none 0 0),.val (.slice none 0 0),.val (.slice none 0 0),.lst true 1 (Es Q1 v5),.own 3 0 b7.length,.val (.map none)]]),(3,.row 1 (Ls b7))],4⟩) (fun b7=>b7=e7) ?_ ?_
   ·refine Qh ?_
    refine QD h (fun s41:List (List Int) × Int=>⟨[(0,.rptr (Mnd.cells true m_)),(4,.adr 1 0 0),(28,.lst true 1 (Es Q1 v5)),(29,.val (.int .i64 (v5.length:Int))),(30,.val (.int .i64 s41.2))],[(0,.mix 5 [[.val (.int .i64 0),.val (.slice none 0 0),.val (.slice none 0 0),.val (.slice none 0 0),.val (.slice none 0 0)]]),(1,.mix 1 [[.adr 2 0 0]]),(2,.mix 9 [[.rptr (Mnd.cells true m_),.val (.int .i64 0),.val (.slice none 0 0),.val (.slice none 0 0),.val (.slice none 0 0),.val (.slice none 0 0),.lst true 1 (Es Q1 v5),.own 3 0 s41.1.length,.val (.map none)]]),(3,.row 1 (Ls s41.1))],4⟩) (Q3J ⟨[(0,.rptr (Mnd.cells true m_)),(4,.adr 1 0 0),(28,.lst true 1 (Es Q1 v5)),(29,.val (.int .i64 (v5.length:Int))),(30,.val (.int .i64 0))],[(0,.mix 5 [[.val (.int .i64 0),.val (.slice none 0 0),.val (.slice none 0 0),.val (.slice none 0 0),.val (.slice none 0 0)]]),(1,.mix 1 [[.adr 2 0 0]]),(2,.mix 9 [[.rptr (Mnd.cells true m_),.val (.int .i64 0),.val (.slice none 0 0),.val (.slice none 0 0),.val (.slice none 0 0),.val (.slice none 0 0),.lst true 1 (Es Q1 v5),.own 3 0 0,.val (.map none)]]),(3,.row 1 (Ls []))],4⟩ (Wk.nils [(3,1)] (by simp) (by simp) (by simp [nlA]) (by simp [entN,nlL,nlA,Cat.cells,Mnd.cells,XAlgebra.cells,XAlgebras.cells,UA,U1,IA,I1,LA,L1,BA,B1,EA,E1,E2,eB,eI,eL,Qe _ Q1 _ (fun _=>rfl),Qe _ Q6 _ (fun _=>rfl)]) (by simp)) (Wk.rP _ [(0,0),(1,1),(2,2),(3,3)] hP (by rfl) (by simp [hhOk,back,Cat.cells,Mnd.cells,XAlgebra.cells,XAlgebras.cells,UA,U1,IA,I1,LA,L1,BA,B1,EA,E1,E2,eB,eI,eL,Qe _ Q1 _ (fun _=>rfl),Qe _ Q6 _ (fun _=>rfl)]))) ?_
    clear h
    intro k41 s41 c41 h hk41
    refine Q8 ?_
    refine Qw [] mo (by rw [hN];decide) fun K hK=>?_
    simp [-Q0,-Q9,-Q3,-Qa,-Q4,eL,eI,Q2,Q7,Qf,Q1,Q6,Cat.cells,Mnd.cells,XAlgebra.cells,XAlgebras.cells]
    repeat with_reducible refine sdQ ?_
    refine hK _ ?_;clear hK K
    refine tn ?_
    refine Qd (st':=⟨[(0,.rptr (Mnd.cells true m_)),(4,.adr 1 0 0),(28,.lst true 1 (Es Q1 v5)),(29,.val (.int .i64 (v5.length:Int))),(30,.val (.int .i64 s41.2)),(31,.val (.bool (decide (s41.2<(v5.length:Int)))))],[(0,.mix 5 [[.val (.int .i64 0),.val (.slice none 0 0),.val (.slice none 0 0),.val (.slice none 0 0),.val (.slice none 0 0)]]),(1,.mix 1 [[.adr 2 0 0]]),(2,.mix 9 [[.rptr (Mnd.cells true m_),.val (.int .i64 0),.val (.slice none 0 0),.val (.slice none 0 0),.val (.slice none 0 0),.val (.slice none 0 0),.lst true 1 (Es Q1 v5),.own 3 0 s41.1.length,.val (.map none)]]),(3,.row 1 (Ls s41.1))],4⟩) (Wk.rP _ [(0,0),(1,1),(2,2),(3,3)] hP (by rfl) (by simp [hhOk,back,Cat.cells,Mnd.cells,XAlgebra.cells,XAlgebras.cells,UA,U1,IA,I1,LA,L1,BA,B1,EA,E1,E2,eB,eI,eL,Qe _ Q1 _ (fun _=>rfl),Qe _ Q6 _ (fun _=>rfl)])) ?_
    refine Q8 ?_
    refine Qi rfl (fun g=>?_) fun g=>?_
    ·have g42:s41.2<(v5.length:Int):=gQ
     clear g
     replace h:=if_l g42 h
     refine Qj ?_
     refine tn ?_
     refine Q8 ?_
     replace h:=bind_some h
     obtain ⟨e43,h,h43⟩:=h
     refine Qp (fun b43:List (List Int)=>⟨[(0,.rptr (Mnd.cells true m_)),(4,.adr 1 0 0),(28,.lst true 1 (Es Q1 v5)),(29,.val (.int .i64 (v5.length:Int))),(30,.val (.int .i64 s41.2))],[(0,.mix 5 [[.val (.int .i64 0),.val (.slice none 0 0),.val (.slice none 0 0),.val (.slice none 0 0),.val (.slice none 0 0)]]),(1,.mix 1 [[.adr 2 0 0]]),(2,.mix 9 [[.rptr (Mnd.cells true m_),.val (.int .i64 0),.val (.slice none 0 0),.val (.slice none 0 0),.val (.slice none 0 0),.val (.slice none 0 0),.lst true 1 (Es Q1 v5),.own 3 0 b43.length,.val (.map none)]]),(3,.row 1 (Ls b43))],4⟩) (fun b43=>b43=e43) ?_ ?_
     ·refine Qh ?_
      refine Q8 ?_
      refine Qw [] mo (by rw [hN];decide) fun K hK=>?_
      replace h:=Qc h
      obtain ⟨a44,h⟩:=h
      simp [-Q0,-Q9,-Q3,-Qa,-Q4,eL,eI,Q2,Q7,Qf,Q1,Q6,Cat.cells,Mnd.cells,XAlgebra.cells,XAlgebras.cells,at_E (c:=Q1) a44]
      repeat with_reducible refine sdQ ?_
      refine hK _ ?_;clear hK K
      refine tn ?_
      refine Qd (st':=⟨[(0,.rptr (Mnd.cells true m_)),(4,.adr 1 0 0),(5,.val (.int .i64 s41.2)),(6,.rptr (XAlgebra.cells true (gx v5 s41.2))),(28,.lst true 1 (Es Q1 v5)),(29,.val (.int .i64 (v5.length:Int))),(30,.val (.int .i64 s41.2))],[(0,.mix 5 [[.val (.int .i64 0),.val (.slice none 0 0),.val (.slice none 0 0),.val (.slice none 0 0),.val (.slice none 0 0)]]),(1,.mix 1 [[.adr 2 0 0]]),(2,.mix 9 [[.rptr (Mnd.cells true m_),.val (.int .i64 0),.val (.slice none 0 0),.val (.slice none 0 0),.val (.slice none 0 0),.val (.slice none 0 0),.lst true 1 (Es Q1 v5),.own 3 0 s41.1.length,.val (.map none)]]),(3,.row 1 (Ls s41.1))],4⟩) (Wk.rP _ [(0,0),(1,1),(2,2),(3,3)] hP (by rfl) (by simp [hhOk,back,Cat.cells,Mnd.cells,XAlgebra.cells,XAlgebras.cells,UA,U1,IA,I1,LA,L1,BA,B1,EA,E1,E2,eB,eI,eL,Qe _ Q1 _ (fun _=>rfl),Qe _ Q6 _ (fun _=>rfl)])) ?_
      refine Q8 ?_
      refine Qw [] mo (by rw [hN];decide) fun K hK=>?_
      simp [-Q0,-Q9,-Q3,-Qa,-Q4,eL,eI,Q2,Q7,Qf,Q1,Q6,Cat.cells,Mnd.cells,XAlgebra.cells,XAlgebras.cells]
      repeat with_reducible refine sdQ ?_
      refine hK _ ?_;clear hK K
      refine tn ?_
      refine Qd (st':=⟨[(0,.rptr (Mnd.cells true m_)),(4,.adr 1 0 0),(5,.val (.int .i64 s41.2)),(6,.rptr (XAlgebra.cells true (gx v5 s41.2))),(28,.lst true 1 (Es Q1 v5)),(29,.val (.int .i64 (v5.length:Int))),(30,.val (.int .i64 s41.2)),(38,.lst true 1 (Es Q1 v5)),(39,.val (.int .i64 (v5.length:Int))),(40,.val (.int .i64 0))],[(0,.mix 5 [[.val (.int .i64 0),.val (.slice none 0 0),.val (.slice none 0 0),.val (.slice none 0 0),.val (.slice none 0 0)]]),(1,.mix 1 [[.adr 2 0 0]]),(2,.mix 9 [[.rptr (Mnd.cells true m_),.val (.int .i64 0),.val (.slice none 0 0),.val (.slice none 0 0),.val (.slice none 0 0),.val (.slice none 0 0),.lst true 1 (Es Q1 v5),.own 3 0 s41.1.length,.val (.map none)]]),(3,.row 1 (Ls s41.1))],4⟩) (Wk.rP _ [(0,0),(1,1),(2,2),(3,3)] hP (by rfl) (by simp [hhOk,back,Cat.cells,Mnd.cells,XAlgebra.cells,XAlgebras.cells,UA,U1,IA,I1,LA,L1,BA,B1,EA,E1,E2,eB,eI,eL,Qe _ Q1 _ (fun _=>rfl),Qe _ Q6 _ (fun _=>rfl)])) ?_
      refine Qh ?_
      replace h:=bind_some h
      obtain ⟨e59,he59,h59⟩:=h
      refine QD he59 (fun s59:List (List Int) × Int=>⟨[(0,.rptr (Mnd.cells true m_)),(4,.adr 1 0 0),(5,.val (.int .i64 s41.2)),(6,.rptr (XAlgebra.cells true (gx v5 s41.2))),(28,.lst true 1 (Es Q1 v5)),(29,.val (.int .i64 (v5.length:Int))),(30,.val (.int .i64 s41.2)),(38,.lst true 1 (Es Q1 v5)),(39,.val (.int .i64 (v5.length:Int))),(40,.val (.int .i64 s59.2))],[(0,.mix 5 [[.val (.int .i64 0),.val (.slice none 0 0),.val (.slice none 0 0),.val (.slice none 0 0),.val (.slice none 0 0)]]),(1,.mix 1 [[.adr 2 0 0]]),(2,.mix 9 [[.rptr (Mnd.cells true m_),.val (.int .i64 0),.val (.slice none 0 0),.val (.slice none 0 0),.val (.slice none 0 0),.val (.slice none 0 0),.lst true 1 (Es Q1 v5),.own 3 0 s59.1.length,.val (.map none)]]),(3,.row 1 (Ls s59.1))],4⟩) (Wk.rP _ [(0,0),(1,1),(2,2),(3,3)] hP (by rfl) (by simp [hhOk,back,Cat.cells,Mnd.cells,XAlgebra.cells,XAlgebras.cells,UA,U1,IA,I1,LA,L1,BA,B1,EA,E1,E2,eB,eI,eL,Qe _ Q1 _ (fun _=>rfl),Qe _ Q6 _ (fun _=>rfl)])) ?_
      intro k59 s59 c59 h hk59
      refine Q8 ?_
      refine Qw [] mo (by rw [hN];decide) fun K hK=>?_
      simp [-Q0,-Q9,-Q3,-Qa,-Q4,eL,eI,Q2,Q7,Qf,Q1,Q6,Cat.cells,Mnd.cells,XAlgebra.cells,XAlgebras.cells]
      repeat with_reducible refine sdQ ?_
      refine hK _ ?_;clear hK K
      refine tn ?_
      refine Qd (st':=⟨[(0,.rptr (Mnd.cells true m_)),(4,.adr 1 0 0),(5,.val (.int .i64 s41.2)),(6,.rptr (XAlgebra.cells true (gx v5 s41.2))),(28,.lst true 1 (Es Q1 v5)),(29,.val (.int .i64 (v5.length:Int))),(30,.val (.int .i64 s41.2)),(38,.lst true 1 (Es Q1 v5)),(39,.val (.int .i64 (v5.length:Int))),(40,.val (.int .i64 s59.2)),(41,.val (.bool (decide (s59.2<(v5.length:Int)))))],[(0,.mix 5 [[.val (.int .i64 0),.val (.slice none 0 0),.val (.slice none 0 0),.val (.slice none 0 0),.val (.slice none 0 0)]]),(1,.mix 1 [[.adr 2 0 0]]),(2,.mix 9 [[.rptr (Mnd.cells true m_),.val (.int .i64 0),.val (.slice none 0 0),.val (.slice none 0 0),.val (.slice none 0 0),.val (.slice none 0 0),.lst true 1 (Es Q1 v5),.own 3 0 s59.1.length,.val (.map none)]]),(3,.row 1 (Ls s59.1))],4⟩) (Wk.rP _ [(0,0),(1,1),(2,2),(3,3)] hP (by rfl) (by simp [hhOk,back,Cat.cells,Mnd.cells,XAlgebra.cells,XAlgebras.cells,UA,U1,IA,I1,LA,L1,BA,B1,EA,E1,E2,eB,eI,eL,Qe _ Q1 _ (fun _=>rfl),Qe _ Q6 _ (fun _=>rfl)])) ?_
      refine Q8 ?_
      refine Qi rfl (fun g=>?_) fun g=>?_
      ·have g60:s59.2<(v5.length:Int):=gQ
       clear g
       replace h:=if_l g60 h
       refine Qj ?_
       refine tn ?_
       refine Q8 ?_
       replace h:=bind_some h
       obtain ⟨e61,h,h61⟩:=h
       refine Qp (fun b61:List (List Int)=>⟨[(0,.rptr (Mnd.cells true m_)),(4,.adr 1 0 0),(5,.val (.int .i64 s41.2)),(6,.rptr (XAlgebra.cells true (gx v5 s41.2))),(28,.lst true 1 (Es Q1 v5)),(29,.val (.int .i64 (v5.length:Int))),(30,.val (.int .i64 s41.2)),(38,.lst true 1 (Es Q1 v5)),(39,.val (.int .i64 (v5.length:Int))),(40,.val (.int .i64 s59.2))],[(0,.mix 5 [[.val (.int .i64 0),.val (.slice none 0 0),.val (.slice none 0 0),.val (.slice none 0 0),.val (.slice none 0 0)]]),(1,.mix 1 [[.adr 2 0 0]]),(2,.mix 9 [[.rptr (Mnd.cells true m_),.val (.int .i64 0),.val (.slice none 0 0),.val (.slice none 0 0),.val (.slice none 0 0),.val (.slice none 0 0),.lst true 1 (Es Q1 v5),.own 3 0 b61.length,.val (.map none)]]),(3,.row 1 (Ls b61))],4⟩) (fun b61=>b61=e61) ?_ ?_
       ·refine Qh ?_
        refine Q8 ?_
        refine Qw [] mo (by rw [hN];decide) fun K hK=>?_
        replace h:=Qc h
        obtain ⟨a62,h⟩:=h
        simp [-Q0,-Q9,-Q3,-Qa,-Q4,eL,eI,Q2,Q7,Qf,Q1,Q6,Cat.cells,Mnd.cells,XAlgebra.cells,XAlgebras.cells,at_E (c:=Q1) a62]
        repeat with_reducible refine sdQ ?_
        refine hK _ ?_;clear hK K
        refine tn ?_
        refine Qd (st':=⟨[(0,.rptr (Mnd.cells true m_)),(4,.adr 1 0 0),(5,.val (.int .i64 s41.2)),(6,.rptr (XAlgebra.cells true (gx v5 s41.2))),(7,.val (.int .i64 s59.2)),(8,.rptr (XAlgebra.cells true (gx v5 s59.2))),(28,.lst true 1 (Es Q1 v5)),(29,.val (.int .i64 (v5.length:Int))),(30,.val (.int .i64 s41.2)),(38,.lst true 1 (Es Q1 v5)),(39,.val (.int .i64 (v5.length:Int))),(40,.val (.int .i64 s59.2))],[(0,.mix 5 [[.val (.int .i64 0),.val (.slice none 0 0),.val (.slice none 0 0),.val (.slice none 0 0),.val (.slice none 0 0)]]),(1,.mix 1 [[.adr 2 0 0]]),(2,.mix 9 [[.rptr (Mnd.cells true m_),.val (.int .i64 0),.val (.slice none 0 0),.val (.slice none 0 0),.val (.slice none 0 0),.val (.slice none 0 0),.lst true 1 (Es Q1 v5),.own 3 0 s59.1.length,.val (.map none)]]),(3,.row 1 (Ls s59.1))],4⟩) (Wk.rP _ [(0,0),(1,1),(2,2),(3,3)] hP (by rfl) (by simp [hhOk,back,Cat.cells,Mnd.cells,XAlgebra.cells,XAlgebras.cells,UA,U1,IA,I1,LA,L1,BA,B1,EA,E1,E2,eB,eI,eL,Qe _ Q1 _ (fun _=>rfl),Qe _ Q6 _ (fun _=>rfl)])) ?_
        refine Q8 ?_
        refine Qw [] mo (by rw [hN];decide) fun K hK=>?_
        simp [-Q0,-Q9,-Q3,-Qa,-Q4,eL,eI,Q2,Q7,Qf,Q1,Q6,Cat.cells,Mnd.cells,XAlgebra.cells,XAlgebras.cells]
        repeat with_reducible refine sdQ ?_
        replace h:=bind_some h
        obtain ⟨v63,hv63,h⟩:=h
        refine QZ (fz:=[]) (Q3y _ _ _ v63 hv63) (.cons (.preT (by simp [Mnd.cells,XAlgebra.cells])) (.cons (.preT (by simp [Mnd.cells,XAlgebra.cells])) (.cons (.preT (by simp [Mnd.cells,XAlgebra.cells])) .nil))) ?_
        simp [-Q0,-Q9,-Q3,-Qa,-Q4,unk,unA,unE,unT,unC,flat,eL,eI,Q2,Q7,Qf,Q1,Q6,Cat.cells,Mnd.cells,XAlgebra.cells,XAlgebras.cells]
        repeat with_reducible refine sdQ ?_
        refine hK _ ?_;clear hK K
        refine tn ?_
        refine Qd (st':=⟨[(0,.rptr (Mnd.cells true m_)),(4,.adr 1 0 0),(5,.val (.int .i64 s41.2)),(6,.rptr (XAlgebra.cells true (gx v5 s41.2))),(7,.val (.int .i64 s59.2)),(28,.lst true 1 (Es Q1 v5)),(29,.val (.int .i64 (v5.length:Int))),(30,.val (.int .i64 s41.2)),(38,.lst true 1 (Es Q1 v5)),(39,.val (.int .i64 (v5.length:Int))),(40,.val (.int .i64 s59.2)),(48,.own 4 0 v63.length),(49,.val (.int .i64 (v63.length:Int))),(50,.val (.int .i64 0))],[(0,.mix 5 [[.val (.int .i64 0),.val (.slice none 0 0),.val (.slice none 0 0),.val (.slice none 0 0),.val (.slice none 0 0)]]),(1,.mix 1 [[.adr 2 0 0]]),(2,.mix 9 [[.rptr (Mnd.cells true m_),.val (.int .i64 0),.val (.slice none 0 0),.val (.slice none 0 0),.val (.slice none 0 0),.val (.slice none 0 0),.lst true 1 (Es Q1 v5),.own 3 0 s59.1.length,.val (.map none)]]),(3,.row 1 (Ls s59.1)),(4,.row 1 (Is v63))],5⟩) (Wk.rP _ [(0,0),(1,1),(2,2),(3,3),(4,4)] hP (by rfl) (by simp [hhOk,back,Cat.cells,Mnd.cells,XAlgebra.cells,XAlgebras.cells,UA,U1,IA,I1,LA,L1,BA,B1,EA,E1,E2,eB,eI,eL,Qe _ Q1 _ (fun _=>rfl),Qe _ Q6 _ (fun _=>rfl)])) ?_
        refine Qh ?_
        replace h:=bind_some h
        obtain ⟨e68,he68,h68⟩:=h
        refine QD he68 (fun s68:List (List Int) × Int=>⟨[(0,.rptr (Mnd.cells true m_)),(4,.adr 1 0 0),(5,.val (.int .i64 s41.2)),(6,.rptr (XAlgebra.cells true (gx v5 s41.2))),(7,.val (.int .i64 s59.2)),(28,.lst true 1 (Es Q1 v5)),(29,.val (.int .i64 (v5.length:Int))),(30,.val (.int .i64 s41.2)),(38,.lst true 1 (Es Q1 v5)),(39,.val (.int .i64 (v5.length:Int))),(40,.val (.int .i64 s59.2)),(48,.own 4 0 v63.length),(49,.val (.int .i64 (v63.length:Int))),(50,.val (.int .i64 s68.2))],[(0,.mix 5 [[.val (.int .i64 0),.val (.slice none 0 0),.val (.slice none 0 0),.val (.slice none 0 0),.val (.slice none 0 0)]]),(1,.mix 1 [[.adr 2 0 0]]),(2,.mix 9 [[.rptr (Mnd.cells true m_),.val (.int .i64 0),.val (.slice none 0 0),.val (.slice none 0 0),.val (.slice none 0 0),.val (.slice none 0 0),.lst true 1 (Es Q1 v5),.own 3 0 s68.1.length,.val (.map none)]]),(3,.row 1 (Ls s68.1)),(4,.row 1 (Is v63))],5⟩) (Wk.rP _ [(0,0),(1,1),(2,2),(3,3),(4,4)] hP (by rfl) (by simp [hhOk,back,Cat.cells,Mnd.cells,XAlgebra.cells,XAlgebras.cells,UA,U1,IA,I1,LA,L1,BA,B1,EA,E1,E2,eB,eI,eL,Qe _ Q1 _ (fun _=>rfl),Qe _ Q6 _ (fun _=>rfl)])) ?_
        intro k68 s68 c68 h hk68
        refine Q8 ?_
        refine Qw [] mo (by rw [hN];decide) fun K hK=>?_
        simp [-Q0,-Q9,-Q3,-Qa,-Q4,eL,eI,Q2,Q7,Qf,Q1,Q6,Cat.cells,Mnd.cells,XAlgebra.cells,XAlgebras.cells]
        repeat with_reducible refine sdQ ?_
        refine hK _ ?_;clear hK K
        refine tn ?_
        refine Qd (st':=⟨[(0,.rptr (Mnd.cells true m_)),(4,.adr 1 0 0),(5,.val (.int .i64 s41.2)),(6,.rptr (XAlgebra.cells true (gx v5 s41.2))),(7,.val (.int .i64 s59.2)),(28,.lst true 1 (Es Q1 v5)),(29,.val (.int .i64 (v5.length:Int))),(30,.val (.int .i64 s41.2)),(38,.lst true 1 (Es Q1 v5)),(39,.val (.int .i64 (v5.length:Int))),(40,.val (.int .i64 s59.2)),(48,.own 4 0 v63.length),(49,.val (.int .i64 (v63.length:Int))),(50,.val (.int .i64 s68.2)),(51,.val (.bool (decide (s68.2<(v63.length:Int)))))],[(0,.mix 5 [[.val (.int .i64 0),.val (.slice none 0 0),.val (.slice none 0 0),.val (.slice none 0 0),.val (.slice none 0 0)]]),(1,.mix 1 [[.adr 2 0 0]]),(2,.mix 9 [[.rptr (Mnd.cells true m_),.val (.int .i64 0),.val (.slice none 0 0),.val (.slice none 0 0),.val (.slice none 0 0),.val (.slice none 0 0),.lst true 1 (Es Q1 v5),.own 3 0 s68.1.length,.val (.map none)]]),(3,.row 1 (Ls s68.1)),(4,.row 1 (Is v63))],5⟩) (Wk.rP _ [(0,0),(1,1),(2,2),(3,3),(4,4)] hP (by rfl) (by simp [hhOk,back,Cat.cells,Mnd.cells,XAlgebra.cells,XAlgebras.cells,UA,U1,IA,I1,LA,L1,BA,B1,EA,E1,E2,eB,eI,eL,Qe _ Q1 _ (fun _=>rfl),Qe _ Q6 _ (fun _=>rfl)])) ?_
        refine Q8 ?_
        refine Qi rfl (fun g=>?_) fun g=>?_
        ·have g69:s68.2<(v63.length:Int):=gQ
         clear g
         replace h:=if_l g69 h
         refine Qj ?_
         refine tn ?_
         refine Q8 ?_
         refine Qh ?_
         refine Q8 ?_
         refine Qw [] mo (by rw [hN];decide) fun K hK=>?_
         replace h:=Qc h
         obtain ⟨a70,h⟩:=h
         simp [-Q0,-Q9,-Q3,-Qa,-Q4,eL,eI,Q2,Q7,Qf,Q1,Q6,Cat.cells,Mnd.cells,XAlgebra.cells,XAlgebras.cells,at_I a70]
         repeat with_reducible refine sdQ ?_
         refine hK _ ?_;clear hK K
         refine tn ?_
         refine Qd (st':=⟨[(0,.rptr (Mnd.cells true m_)),(4,.adr 1 0 0),(5,.val (.int .i64 s41.2)),(6,.rptr (XAlgebra.cells true (gx v5 s41.2))),(7,.val (.int .i64 s59.2)),(10,.val (.int .i64 (ix v63 s68.2))),(28,.lst true 1 (Es Q1 v5)),(29,.val (.int .i64 (v5.length:Int))),(30,.val (.int .i64 s41.2)),(38,.lst true 1 (Es Q1 v5)),(39,.val (.int .i64 (v5.length:Int))),(40,.val (.int .i64 s59.2)),(48,.own 4 0 v63.length),(49,.val (.int .i64 (v63.length:Int))),(50,.val (.int .i64 s68.2))],[(0,.mix 5 [[.val (.int .i64 0),.val (.slice none 0 0),.val (.slice none 0 0),.val (.slice none 0 0),.val (.slice none 0 0)]]),(1,.mix 1 [[.adr 2 0 0]]),(2,.mix 9 [[.rptr (Mnd.cells true m_),.val (.int .i64 0),.val (.slice none 0 0),.val (.slice none 0 0),.val (.slice none 0 0),.val (.slice none 0 0),.lst true 1 (Es Q1 v5),.own 3 0 s68.1.length,.val (.map none)]]),(3,.row 1 (Ls s68.1)),(4,.row 1 (Is v63))],5⟩) (Wk.rP _ [(0,0),(1,1),(2,2),(3,3),(4,4)] hP (by rfl) (by simp [hhOk,back,Cat.cells,Mnd.cells,XAlgebra.cells,XAlgebras.cells,UA,U1,IA,I1,LA,L1,BA,B1,EA,E1,E2,eB,eI,eL,Qe _ Q1 _ (fun _=>rfl),Qe _ Q6 _ (fun _=>rfl)])) ?_
         refine w_runXK [] [4] mo (by rw [hN];decide) fun K hK=>?_
         replace h:=Qc h
         obtain ⟨a71,h⟩:=h
         try simp only [List.length_append,List.length_cons,List.length_nil] at a71
         simp [-Q0,-Q9,-Q3,-Qa,-Q4,eL,eI,Q2,Q7,Qf,Q1,Q6,Cat.cells,Mnd.cells,XAlgebra.cells,XAlgebras.cells,a71]
         repeat with_reducible refine sdQ ?_
         refine hK _ ?_ (by rfl)
         clear hK K
         refine bn ?_
         refine tn ?_
         refine Qd (st':=⟨[(0,.rptr (Mnd.cells true m_)),(4,.adr 1 0 0),(5,.val (.int .i64 s41.2)),(6,.rptr (XAlgebra.cells true (gx v5 s41.2))),(7,.val (.int .i64 s59.2)),(28,.lst true 1 (Es Q1 v5)),(29,.val (.int .i64 (v5.length:Int))),(30,.val (.int .i64 s41.2)),(38,.lst true 1 (Es Q1 v5)),(39,.val (.int .i64 (v5.length:Int))),(40,.val (.int .i64 s59.2)),(48,.own 4 0 v63.length),(49,.val (.int .i64 (v63.length:Int))),(50,.val (.int .i64 s68.2))],[(0,.mix 5 [[.val (.int .i64 0),.val (.slice none 0 0),.val (.slice none 0 0),.val (.slice none 0 0),.val (.slice none 0 0)]]),(1,.mix 1 [[.adr 2 0 0]]),(2,.mix 9 [[.rptr (Mnd.cells true m_),.val (.int .i64 0),.val (.slice none 0 0),.val (.slice none 0 0),.val (.slice none 0 0),.val (.slice none 0 0),.lst true 1 (Es Q1 v5),.own 3 0 ((s68.1++[[s41.2,s59.2,ix v63 s68.2]]).length),.val (.map none)]]),(3,.row 1 (Ls (s68.1++[[s41.2,s59.2,ix v63 s68.2]]))),(4,.row 1 (Is v63))],5⟩) (Wk.rP _ [(0,0),(1,1),(2,2),(7,3),(4,4)] hP (by rfl) (by simp [hhOk,back,Cat.cells,Mnd.cells,XAlgebra.cells,XAlgebras.cells,UA,U1,IA,I1,LA,L1,BA,B1,EA,E1,E2,eB,eI,eL,Qe _ Q1 _ (fun _=>rfl),Qe _ Q6 _ (fun _=>rfl)])) ?_
         refine Qw [] mo (by rw [hN];decide) fun K hK=>?_
         replace h:=Qc h
         obtain ⟨a72,h⟩:=h
         simp [-Q0,-Q9,-Q3,-Qa,-Q4,eL,eI,Q2,Q7,Qf,Q1,Q6,Cat.cells,Mnd.cells,XAlgebra.cells,XAlgebras.cells,QA a72]
         repeat with_reducible refine sdQ ?_
         refine hK _ ?_;clear hK K
         cases h
         exact rn (s':=(s68.1++[[s41.2,s59.2,ix v63 s68.2]],s68.2+1)) hk68 (Wk.rP _ [(0,0),(1,1),(2,2),(3,3),(4,4)] hP (by rfl) (by simp [hhOk,back,Cat.cells,Mnd.cells,XAlgebra.cells,XAlgebras.cells,UA,U1,IA,I1,LA,L1,BA,B1,EA,E1,E2,eB,eI,eL,Qe _ Q1 _ (fun _=>rfl),Qe _ Q6 _ (fun _=>rfl)]))
        have g69:¬ (s68.2<(v63.length:Int)):=gQ
        clear g
        replace h:=if_r g69 h
        refine Qu ?_
        refine tx ?_
        refine lx ?_
        refine bh ?_
        refine bn ?_
        cases h
        have q:_=e68:=hk68
        have h:=h68
        rw [← q] at h
        clear q
        try dsimp only at h
        exact jn (b:=s68.1) (Option.some.inj h) (Wk.rP _ [(0,0),(1,1),(2,2),(3,3)] hP (by rfl) (by simp [hhOk,back,Cat.cells,Mnd.cells,XAlgebra.cells,XAlgebras.cells,UA,U1,IA,I1,LA,L1,BA,B1,EA,E1,E2,eB,eI,eL,Qe _ Q1 _ (fun _=>rfl),Qe _ Q6 _ (fun _=>rfl)]))
       intro b61 hb61
       have h:=h61
       rw [← hb61] at h
       clear h61
       try dsimp only at h
       refine Qw [] mo (by rw [hN];decide) fun K hK=>?_
       replace h:=Qc h
       obtain ⟨a73,h⟩:=h
       simp [-Q0,-Q9,-Q3,-Qa,-Q4,eL,eI,Q2,Q7,Qf,Q1,Q6,Cat.cells,Mnd.cells,XAlgebra.cells,XAlgebras.cells,QA a73]
       repeat with_reducible refine sdQ ?_
       refine hK _ ?_;clear hK K
       cases h
       exact rn (s':=(b61,s59.2+1)) hk59 (Wk.rP _ [(0,0),(1,1),(2,2),(3,3)] hP (by rfl) (by simp [hhOk,back,Cat.cells,Mnd.cells,XAlgebra.cells,XAlgebras.cells,UA,U1,IA,I1,LA,L1,BA,B1,EA,E1,E2,eB,eI,eL,Qe _ Q1 _ (fun _=>rfl),Qe _ Q6 _ (fun _=>rfl)]))
      have g60:¬ (s59.2<(v5.length:Int)):=gQ
      clear g
      replace h:=if_r g60 h
      refine Qu ?_
      refine tx ?_
      refine lx ?_
      refine bh ?_
      refine bn ?_
      cases h
      have q:_=e59:=hk59
      have h:=h59
      rw [← q] at h
      clear q
      try dsimp only at h
      exact jn (b:=s59.1) (Option.some.inj h) (Wk.rP _ [(0,0),(1,1),(2,2),(3,3)] hP (by rfl) (by simp [hhOk,back,Cat.cells,Mnd.cells,XAlgebra.cells,XAlgebras.cells,UA,U1,IA,I1,LA,L1,BA,B1,EA,E1,E2,eB,eI,eL,Qe _ Q1 _ (fun _=>rfl),Qe _ Q6 _ (fun _=>rfl)]))
     intro b43 hb43
     have h:=h43
     rw [← hb43] at h
     clear h43
     try dsimp only at h
     refine Qw [] mo (by rw [hN];decide) fun K hK=>?_
     replace h:=Qc h
     obtain ⟨a74,h⟩:=h
     simp [-Q0,-Q9,-Q3,-Qa,-Q4,eL,eI,Q2,Q7,Qf,Q1,Q6,Cat.cells,Mnd.cells,XAlgebra.cells,XAlgebras.cells,QA a74]
     repeat with_reducible refine sdQ ?_
     refine hK _ ?_;clear hK K
     cases h
     exact rn (s':=(b43,s41.2+1)) hk41 (Wk.rP _ [(0,0),(1,1),(2,2),(3,3)] hP (by rfl) (by simp [hhOk,back,Cat.cells,Mnd.cells,XAlgebra.cells,XAlgebras.cells,UA,U1,IA,I1,LA,L1,BA,B1,EA,E1,E2,eB,eI,eL,Qe _ Q1 _ (fun _=>rfl),Qe _ Q6 _ (fun _=>rfl)]))
    have g42:¬ (s41.2<(v5.length:Int)):=gQ
    clear g
    replace h:=if_r g42 h
    refine Qu ?_
    refine tx ?_
    refine lx ?_
    refine bh ?_
    cases h
    exact jn (b:=s41.1) hk41 (Wk.rP _ [(0,0),(1,1),(2,2),(3,3)] hP (by rfl) (by simp [hhOk,back,Cat.cells,Mnd.cells,XAlgebra.cells,XAlgebras.cells,UA,U1,IA,I1,LA,L1,BA,B1,EA,E1,E2,eB,eI,eL,Qe _ Q1 _ (fun _=>rfl),Qe _ Q6 _ (fun _=>rfl)]))
   intro b7 hb7
   have h:=h7
   rw [← hb7] at h
   clear h7
   try dsimp only at h
   refine Q8 ?_
   refine Q8 ?_
   refine Qw [] mo (by rw [hN];decide) fun K hK=>?_
   simp [-Q0,-Q9,-Q3,-Qa,-Q4,eL,eI,Q2,Q7,Qf,Q1,Q6,Cat.cells,Mnd.cells,XAlgebra.cells,XAlgebras.cells]
   repeat with_reducible refine sdQ ?_
   refine hK _ ?_;clear hK K
   refine tn ?_
   refine Qd (st':=⟨[(0,.rptr (Mnd.cells true m_)),(4,.adr 1 0 0),(75,.val (.bool (decide ((b7.length:Int) > 40))))],[(0,.mix 5 [[.val (.int .i64 0),.val (.slice none 0 0),.val (.slice none 0 0),.val (.slice none 0 0),.val (.slice none 0 0)]]),(1,.mix 1 [[.adr 2 0 0]]),(2,.mix 9 [[.rptr (Mnd.cells true m_),.val (.int .i64 0),.val (.slice none 0 0),.val (.slice none 0 0),.val (.slice none 0 0),.val (.slice none 0 0),.lst true 1 (Es Q1 v5),.own 3 0 b7.length,.val (.map none)]]),(3,.row 1 (Ls b7))],4⟩) (Wk.rP _ [(0,0),(1,1),(2,2),(3,3)] hP (by rfl) (by simp [hhOk,back,Cat.cells,Mnd.cells,XAlgebra.cells,XAlgebras.cells,UA,U1,IA,I1,LA,L1,BA,B1,EA,E1,E2,eB,eI,eL,Qe _ Q1 _ (fun _=>rfl),Qe _ Q6 _ (fun _=>rfl)])) ?_
   refine Qi rfl (fun g=>?_) fun g=>?_
   ·have g75:(b7.length:Int) > 40:=gQ
    clear g
    replace h:=if_l g75 h
    refine Q8 ?_
    refine Qw [] mo (by rw [hN];decide) fun K hK=>?_
    simp [-Q0,-Q9,-Q3,-Qa,-Q4,eL,eI,Q2,Q7,Qf,Q1,Q6,Cat.cells,Mnd.cells,XAlgebra.cells,XAlgebras.cells]
    repeat with_reducible refine sdQ ?_
    refine hK _ ?_;clear hK K
    refine tn ?_
    refine Qd (st':=⟨[(2,.val (.pointer none)),(3,.val (.bool false))],[(0,.mix 5 [[.val (.int .i64 0),.val (.slice none 0 0),.val (.slice none 0 0),.val (.slice none 0 0),.val (.slice none 0 0)]])],1⟩) (Wk.rP _ [(0,0)] hP (by rfl) (by simp [hhOk,back,Cat.cells,Mnd.cells,XAlgebra.cells,XAlgebras.cells,UA,U1,IA,I1,LA,L1,BA,B1,EA,E1,E2,eB,eI,eL,Qe _ Q1 _ (fun _=>rfl),Qe _ Q6 _ (fun _=>rfl)])) ?_
    refine Qn ?_
    refine tr ?_
    cases h
    try dsimp only
    first|refine iw_r (st':=⟨[(2,.val (.pointer none)),(3,.val (.bool false))],[(0,.mix 5 [[.val (.int .i64 0),.val (.slice none 0 0),.val (.slice none 0 0),.val (.slice none 0 0),.val (.slice none 0 0)]])],1⟩) ?_ ?_|refine iw_n (st':=⟨[(2,.val (.pointer none)),(3,.val (.bool false))],[(0,.mix 5 [[.val (.int .i64 0),.val (.slice none 0 0),.val (.slice none 0 0),.val (.slice none 0 0),.val (.slice none 0 0)]])],1⟩) ?_ ?_
    ·exact Wk.rP _ [(0,0)] hP (by rfl) (by simp [hhOk,back,Cat.cells,Mnd.cells,XAlgebra.cells,XAlgebras.cells,UA,U1,IA,I1,LA,L1,BA,B1,EA,E1,E2,eB,eI,eL,Qe _ Q1 _ (fun _=>rfl),Qe _ Q6 _ (fun _=>rfl)])
    exact ⟨by simp [Q1e],by simp,by simp [Cat.cells,Mnd.cells,XAlgebra.cells,XAlgebras.cells]⟩
   have g75:¬ ((b7.length:Int) > 40):=gQ
   clear g
   replace h:=if_r g75 h
   refine Qj ?_
   refine tn ?_
   refine Q8 ?_
   refine Qw [] mo (by rw [hN];decide) fun K hK=>?_
   simp [-Q0,-Q9,-Q3,-Qa,-Q4,eL,eI,Q2,Q7,Qf,Q1,Q6,Cat.cells,Mnd.cells,XAlgebra.cells,XAlgebras.cells]
   repeat with_reducible refine sdQ ?_
   refine hK _ ?_;clear hK K
   refine tn ?_
   refine Qd (st':=⟨[(4,.adr 1 0 0),(11,.adr 4 0 0)],[(0,.mix 5 [[.val (.int .i64 0),.val (.slice none 0 0),.val (.slice none 0 0),.val (.slice none 0 0),.val (.slice none 0 0)]]),(1,.mix 1 [[.adr 2 0 0]]),(2,.mix 9 [[.rptr (Mnd.cells true m_),.val (.int .i64 0),.val (.slice none 0 0),.val (.slice none 0 0),.val (.slice none 0 0),.val (.slice none 0 0),.lst true 1 (Es Q1 v5),.own 3 0 b7.length,.val (.map none)]]),(3,.row 1 (Ls b7)),(4,.mix 1 [[.rptr (Mnd.cells true m_)]])],5⟩) (Wk.rP _ [(0,0),(1,1),(2,2),(3,3),(4,4)] hP (by rfl) (by simp [hhOk,back,Cat.cells,Mnd.cells,XAlgebra.cells,XAlgebras.cells,UA,U1,IA,I1,LA,L1,BA,B1,EA,E1,E2,eB,eI,eL,Qe _ Q1 _ (fun _=>rfl),Qe _ Q6 _ (fun _=>rfl)])) ?_
   refine Q8 ?_
   refine Qw [] mo (by rw [hN];decide) fun K hK=>?_
   simp [-Q0,-Q9,-Q3,-Qa,-Q4,eL,eI,Q2,Q7,Qf,Q1,Q6,Cat.cells,Mnd.cells,XAlgebra.cells,XAlgebras.cells]
   repeat with_reducible refine sdQ ?_
   replace h:=bind_some h
   obtain ⟨v76,hv76,h⟩:=h
   refine Q6n (fz:=[]) false (Q9c _ v76 hv76) (PurK.ofL (.cons (.whole (by simp) (by simp) (by simp)) .nil)) ?_
   simp [-Q0,-Q9,-Q3,-Qa,-Q4,unk,unA,unE,unT,unC,flat,eL,eI,Q2,Q7,Qf,Q1,Q6,Cat.cells,Mnd.cells,XAlgebra.cells,XAlgebras.cells]
   repeat with_reducible refine sdQ ?_
   refine hK _ ?_;clear hK K
   refine tn ?_
   refine Qd (st':=⟨[(4,.adr 1 0 0),(11,.adr 4 0 0)],[(0,.mix 5 [[.val (.int .i64 0),.val (.slice none 0 0),.val (.slice none 0 0),.val (.slice none 0 0),.val (.slice none 0 0)]]),(1,.mix 1 [[.adr 2 0 0]]),(2,.mix 9 [[.rptr (Mnd.cells true m_),.val (.int .i64 0),.val (.slice none 0 0),.val (.slice none 0 0),.val (.slice none 0 0),.val (.slice none 0 0),.lst true 1 (Es Q1 v5),.own 3 0 b7.length,.cmap .str (Msi v76)]]),(3,.row 1 (Ls b7)),(4,.mix 1 [[.rptr (Mnd.cells true m_)]])],5⟩) (Wk.rP _ [(0,0),(1,1),(2,2),(3,3),(4,4)] hP (by rfl) (by simp [hhOk,back,Cat.cells,Mnd.cells,XAlgebra.cells,XAlgebras.cells,UA,U1,IA,I1,LA,L1,BA,B1,EA,E1,E2,eB,eI,eL,Qe _ Q1 _ (fun _=>rfl),Qe _ Q6 _ (fun _=>rfl)])) ?_
   refine Q8 ?_
   refine Qw [] mo (by rw [hN];decide) fun K hK=>?_
   simp [-Q0,-Q9,-Q3,-Qa,-Q4,eL,eI,Q2,Q7,Qf,Q1,Q6,Cat.cells,Mnd.cells,XAlgebra.cells,XAlgebras.cells]
   repeat with_reducible refine sdQ ?_
   replace h:=bind_some h
   obtain ⟨v77,hv77,h⟩:=h
   refine QZ (fz:=[]) (Q5S _ _ v77 hv77) (.cons (.whole (by simp) (by simp) (by simp)) (.cons .val .nil)) ?_
   simp [-Q0,-Q9,-Q3,-Qa,-Q4,unk,unA,unE,unT,unC,flat,eL,eI,Q2,Q7,Qf,Q1,Q6,Cat.cells,Mnd.cells,XAlgebra.cells,XAlgebras.cells]
   repeat with_reducible refine sdQ ?_
   replace h:=bind_some h
   obtain ⟨v78,hv78,h⟩:=h
   refine QZ (fz:=[]) (Q5S _ _ v78 hv78) (.cons (.whole (by simp) (by simp) (by simp)) (.cons .val .nil)) ?_
   simp [-Q0,-Q9,-Q3,-Qa,-Q4,unk,unA,unE,unT,unC,flat,eL,eI,Q2,Q7,Qf,Q1,Q6,Cat.cells,Mnd.cells,XAlgebra.cells,XAlgebras.cells]
   repeat with_reducible refine sdQ ?_
   refine hK _ ?_;clear hK K
   refine tn ?_
   refine Qd (st':=⟨[(4,.adr 1 0 0),(11,.adr 6 0 0)],[(0,.mix 5 [[.val (.int .i64 0),.val (.slice none 0 0),.val (.slice none 0 0),.val (.slice none 0 0),.val (.slice none 0 0)]]),(1,.mix 1 [[.adr 2 0 0]]),(2,.mix 9 [[.rptr (Mnd.cells true m_),.val (.int .i64 (v5.length:Int)),.own 3 0 v77.length,.own 4 0 v78.length,.val (.slice none 0 0),.val (.slice none 0 0),.lst true 1 (Es Q1 v5),.own 5 0 b7.length,.cmap .str (Msi v76)]]),(3,.row 1 (Is v77)),(4,.row 1 (Is v78)),(5,.row 1 (Ls b7)),(6,.mix 1 [[.rptr (Mnd.cells true m_)]])],7⟩) (Wk.rP _ [(0,0),(1,1),(2,2),(5,3),(6,4),(3,5),(4,6)] hP (by rfl) (by simp [hhOk,back,Cat.cells,Mnd.cells,XAlgebra.cells,XAlgebras.cells,UA,U1,IA,I1,LA,L1,BA,B1,EA,E1,E2,eB,eI,eL,Qe _ Q1 _ (fun _=>rfl),Qe _ Q6 _ (fun _=>rfl)])) ?_
   refine Q8 ?_
   refine Q8 ?_
   refine Qw [] mo (by rw [hN];decide) fun K hK=>?_
   simp [-Q0,-Q9,-Q3,-Qa,-Q4,eL,eI,Q2,Q7,Qf,Q1,Q6,Cat.cells,Mnd.cells,XAlgebra.cells,XAlgebras.cells]
   repeat with_reducible refine sdQ ?_
   refine hK _ ?_;clear hK K
   refine tn ?_
   refine Qd (st':=⟨[(4,.adr 1 0 0),(11,.adr 6 0 0),(110,.lst true 1 (Es Q1 v5)),(111,.val (.int .i64 (v5.length:Int))),(112,.val (.int .i64 0))],[(0,.mix 5 [[.val (.int .i64 0),.val (.slice none 0 0),.val (.slice none 0 0),.val (.slice none 0 0),.val (.slice none 0 0)]]),(1,.mix 1 [[.adr 2 0 0]]),(2,.mix 9 [[.rptr (Mnd.cells true m_),.val (.int .i64 (v5.length:Int)),.own 3 0 v77.length,.own 4 0 v78.length,.val (.slice none 0 0),.val (.slice none 0 0),.lst true 1 (Es Q1 v5),.own 5 0 b7.length,.cmap .str (Msi v76)]]),(3,.row 1 (Is v77)),(4,.row 1 (Is v78)),(5,.row 1 (Ls b7)),(6,.mix 1 [[.rptr (Mnd.cells true m_)]])],7⟩) (Wk.rP _ [(0,0),(1,1),(2,2),(3,3),(4,4),(5,5),(6,6)] hP (by rfl) (by simp [hhOk,back,Cat.cells,Mnd.cells,XAlgebra.cells,XAlgebras.cells,UA,U1,IA,I1,LA,L1,BA,B1,EA,E1,E2,eB,eI,eL,Qe _ Q1 _ (fun _=>rfl),Qe _ Q6 _ (fun _=>rfl)])) ?_
   replace h:=bind_some h
   obtain ⟨e79,h,h79⟩:=h
   refine Qp (fun b79:List Int=>⟨[(4,.adr 1 0 0),(11,.adr 7 0 0)],[(0,.mix 5 [[.val (.int .i64 0),.val (.slice none 0 0),.val (.slice none 0 0),.val (.slice none 0 0),.val (.slice none 0 0)]]),(1,.mix 1 [[.adr 2 0 0]]),(2,.mix 9 [[.rptr (Mnd.cells true m_),.val (.int .i64 (v5.length:Int)),.own 3 0 v77.length,.own 4 0 v78.length,.own 5 0 b79.length,.val (.slice none 0 0),.lst true 1 (Es Q1 v5),.own 6 0 b7.length,.cmap .str (Msi v76)]]),(3,.row 1 (Is v77)),(4,.row 1 (Is v78)),(5,.row 1 (Is b79)),(6,.row 1 (Ls b7)),(7,.mix 1 [[.rptr (Mnd.cells true m_)]])],8⟩) (fun b79=>b79=e79) ?_ ?_
   ·refine Qh ?_
    refine QD h (fun s86:List Int × Int=>⟨[(4,.adr 1 0 0),(11,.adr 7 0 0),(110,.lst true 1 (Es Q1 v5)),(111,.val (.int .i64 (v5.length:Int))),(112,.val (.int .i64 s86.2))],[(0,.mix 5 [[.val (.int .i64 0),.val (.slice none 0 0),.val (.slice none 0 0),.val (.slice none 0 0),.val (.slice none 0 0)]]),(1,.mix 1 [[.adr 2 0 0]]),(2,.mix 9 [[.rptr (Mnd.cells true m_),.val (.int .i64 (v5.length:Int)),.own 3 0 v77.length,.own 4 0 v78.length,.own 5 0 s86.1.length,.val (.slice none 0 0),.lst true 1 (Es Q1 v5),.own 6 0 b7.length,.cmap .str (Msi v76)]]),(3,.row 1 (Is v77)),(4,.row 1 (Is v78)),(5,.row 1 (Is s86.1)),(6,.row 1 (Ls b7)),(7,.mix 1 [[.rptr (Mnd.cells true m_)]])],8⟩) (Q3J ⟨[(4,.adr 1 0 0),(11,.adr 6 0 0),(110,.lst true 1 (Es Q1 v5)),(111,.val (.int .i64 (v5.length:Int))),(112,.val (.int .i64 0))],[(0,.mix 5 [[.val (.int .i64 0),.val (.slice none 0 0),.val (.slice none 0 0),.val (.slice none 0 0),.val (.slice none 0 0)]]),(1,.mix 1 [[.adr 2 0 0]]),(2,.mix 9 [[.rptr (Mnd.cells true m_),.val (.int .i64 (v5.length:Int)),.own 3 0 v77.length,.own 4 0 v78.length,.own 7 0 0,.val (.slice none 0 0),.lst true 1 (Es Q1 v5),.own 5 0 b7.length,.cmap .str (Msi v76)]]),(3,.row 1 (Is v77)),(4,.row 1 (Is v78)),(5,.row 1 (Ls b7)),(6,.mix 1 [[.rptr (Mnd.cells true m_)]]),(7,.row 1 (Is []))],8⟩ (Wk.nils [(7,1)] (by simp) (by simp) (by simp [nlA]) (by simp [entN,nlL,nlA,Cat.cells,Mnd.cells,XAlgebra.cells,XAlgebras.cells,UA,U1,IA,I1,LA,L1,BA,B1,EA,E1,E2,eB,eI,eL,Qe _ Q1 _ (fun _=>rfl),Qe _ Q6 _ (fun _=>rfl)]) (by simp)) (Wk.rP _ [(0,0),(1,1),(2,2),(3,3),(4,4),(7,5),(5,6),(6,7)] hP (by rfl) (by simp [hhOk,back,Cat.cells,Mnd.cells,XAlgebra.cells,XAlgebras.cells,UA,U1,IA,I1,LA,L1,BA,B1,EA,E1,E2,eB,eI,eL,Qe _ Q1 _ (fun _=>rfl),Qe _ Q6 _ (fun _=>rfl)]))) ?_
    clear h
    intro k86 s86 c86 h hk86
    refine Q8 ?_
    refine Qw [] mo (by rw [hN];decide) fun K hK=>?_
    simp [-Q0,-Q9,-Q3,-Qa,-Q4,eL,eI,Q2,Q7,Qf,Q1,Q6,Cat.cells,Mnd.cells,XAlgebra.cells,XAlgebras.cells]
    repeat with_reducible refine sdQ ?_
    refine hK _ ?_;clear hK K
    refine tn ?_
    refine Qd (st':=⟨[(4,.adr 1 0 0),(11,.adr 7 0 0),(110,.lst true 1 (Es Q1 v5)),(111,.val (.int .i64 (v5.length:Int))),(112,.val (.int .i64 s86.2)),(113,.val (.bool (decide (s86.2<(v5.length:Int)))))],[(0,.mix 5 [[.val (.int .i64 0),.val (.slice none 0 0),.val (.slice none 0 0),.val (.slice none 0 0),.val (.slice none 0 0)]]),(1,.mix 1 [[.adr 2 0 0]]),(2,.mix 9 [[.rptr (Mnd.cells true m_),.val (.int .i64 (v5.length:Int)),.own 3 0 v77.length,.own 4 0 v78.length,.own 5 0 s86.1.length,.val (.slice none 0 0),.lst true 1 (Es Q1 v5),.own 6 0 b7.length,.cmap .str (Msi v76)]]),(3,.row 1 (Is v77)),(4,.row 1 (Is v78)),(5,.row 1 (Is s86.1)),(6,.row 1 (Ls b7)),(7,.mix 1 [[.rptr (Mnd.cells true m_)]])],8⟩) (Wk.rP _ [(0,0),(1,1),(2,2),(3,3),(4,4),(5,5),(6,6),(7,7)] hP (by rfl) (by simp [hhOk,back,Cat.cells,Mnd.cells,XAlgebra.cells,XAlgebras.cells,UA,U1,IA,I1,LA,L1,BA,B1,EA,E1,E2,eB,eI,eL,Qe _ Q1 _ (fun _=>rfl),Qe _ Q6 _ (fun _=>rfl)])) ?_
    refine Q8 ?_
    refine Qi rfl (fun g=>?_) fun g=>?_
    ·have g87:s86.2<(v5.length:Int):=gQ
     clear g
     replace h:=if_l g87 h
     refine Qj ?_
     refine tn ?_
     refine Q8 ?_
     refine Qh ?_
     refine Q8 ?_
     refine Qw [] mo (by rw [hN];decide) fun K hK=>?_
     replace h:=Qc h
     obtain ⟨a88,h⟩:=h
     simp [-Q0,-Q9,-Q3,-Qa,-Q4,eL,eI,Q2,Q7,Qf,Q1,Q6,Cat.cells,Mnd.cells,XAlgebra.cells,XAlgebras.cells,at_E (c:=Q1) a88]
     repeat with_reducible refine sdQ ?_
     refine hK _ ?_;clear hK K
     refine tn ?_
     refine Qd (st':=⟨[(4,.adr 1 0 0),(11,.adr 7 0 0),(12,.val (.int .i64 s86.2)),(13,.rptr (XAlgebra.cells true (gx v5 s86.2))),(110,.lst true 1 (Es Q1 v5)),(111,.val (.int .i64 (v5.length:Int))),(112,.val (.int .i64 s86.2))],[(0,.mix 5 [[.val (.int .i64 0),.val (.slice none 0 0),.val (.slice none 0 0),.val (.slice none 0 0),.val (.slice none 0 0)]]),(1,.mix 1 [[.adr 2 0 0]]),(2,.mix 9 [[.rptr (Mnd.cells true m_),.val (.int .i64 (v5.length:Int)),.own 3 0 v77.length,.own 4 0 v78.length,.own 5 0 s86.1.length,.val (.slice none 0 0),.lst true 1 (Es Q1 v5),.own 6 0 b7.length,.cmap .str (Msi v76)]]),(3,.row 1 (Is v77)),(4,.row 1 (Is v78)),(5,.row 1 (Is s86.1)),(6,.row 1 (Ls b7)),(7,.mix 1 [[.rptr (Mnd.cells true m_)]])],8⟩) (Wk.rP _ [(0,0),(1,1),(2,2),(3,3),(4,4),(5,5),(6,6),(7,7)] hP (by rfl) (by simp [hhOk,back,Cat.cells,Mnd.cells,XAlgebra.cells,XAlgebras.cells,UA,U1,IA,I1,LA,L1,BA,B1,EA,E1,E2,eB,eI,eL,Qe _ Q1 _ (fun _=>rfl),Qe _ Q6 _ (fun _=>rfl)])) ?_
     refine w_runXK [] [4] mo (by rw [hN];decide) fun K hK=>?_
     replace h:=Qc h
     obtain ⟨a89,h⟩:=h
     simp [-Q0,-Q9,-Q3,-Qa,-Q4,eL,eI,Q2,Q7,Qf,Q1,Q6,Cat.cells,Mnd.cells,XAlgebra.cells,XAlgebras.cells,at_I a89]
     repeat with_reducible refine sdQ ?_
     replace h:=bind_some h
     obtain ⟨v90,hv90,h⟩:=h
     refine QZ (fz:=[]) (Q2O _ _ _ _ v90 hv90) (.cons (.field rfl (by simp [Mnd.cells,XAlgebra.cells,XAlgebras.cells]) (.cons (.preT (by simp [Mnd.cells,XAlgebra.cells,XAlgebras.cells])) (.cons .val (.cons (.whole (by simp) (by simp) (by simp)) (.cons (.whole (by simp) (by simp) (by simp)) (.cons (.whole (by simp) (by simp) (by simp)) (.cons .nil (.cons .lst (.cons (.whole (by simp) (by simp) (by simp)) (.cons .cmap .nil)))))))))) (.cons .val (.cons .val (.cons .val .nil)))) ?_
     replace h:=Qc h
     obtain ⟨a91,h⟩:=h
     try simp only [List.length_append,List.length_cons,List.length_nil] at a91
     simp [-Q0,-Q9,-Q3,-Qa,-Q4,unk,unA,unE,unT,unC,flat,eL,eI,Q2,Q7,Qf,Q1,Q6,Cat.cells,Mnd.cells,XAlgebra.cells,XAlgebras.cells,at_I a89,a91]
     repeat with_reducible refine sdQ ?_
     refine hK _ ?_ (by rfl)
     clear hK K
     refine bn ?_
     refine tn ?_
     refine Qd (st':=⟨[(4,.adr 1 0 0),(11,.adr 7 0 0),(110,.lst true 1 (Es Q1 v5)),(111,.val (.int .i64 (v5.length:Int))),(112,.val (.int .i64 s86.2))],[(0,.mix 5 [[.val (.int .i64 0),.val (.slice none 0 0),.val (.slice none 0 0),.val (.slice none 0 0),.val (.slice none 0 0)]]),(1,.mix 1 [[.adr 2 0 0]]),(2,.mix 9 [[.rptr (Mnd.cells true m_),.val (.int .i64 (v5.length:Int)),.own 3 0 v77.length,.own 4 0 v78.length,.own 5 0 ((s86.1++[v90]).length),.val (.slice none 0 0),.lst true 1 (Es Q1 v5),.own 6 0 b7.length,.cmap .str (Msi v76)]]),(3,.row 1 (Is v77)),(4,.row 1 (Is v78)),(5,.row 1 (Is (s86.1++[v90]))),(6,.row 1 (Ls b7)),(7,.mix 1 [[.rptr (Mnd.cells true m_)]])],8⟩) (Wk.rP _ [(0,0),(1,1),(2,2),(3,3),(4,4),(10,5),(6,6),(7,7)] hP (by rfl) (by simp [hhOk,back,Cat.cells,Mnd.cells,XAlgebra.cells,XAlgebras.cells,UA,U1,IA,I1,LA,L1,BA,B1,EA,E1,E2,eB,eI,eL,Qe _ Q1 _ (fun _=>rfl),Qe _ Q6 _ (fun _=>rfl)])) ?_
     refine Qw [] mo (by rw [hN];decide) fun K hK=>?_
     replace h:=Qc h
     obtain ⟨a92,h⟩:=h
     simp [-Q0,-Q9,-Q3,-Qa,-Q4,eL,eI,Q2,Q7,Qf,Q1,Q6,Cat.cells,Mnd.cells,XAlgebra.cells,XAlgebras.cells,QA a92]
     repeat with_reducible refine sdQ ?_
     refine hK _ ?_;clear hK K
     cases h
     exact rn (s':=(s86.1++[v90],s86.2+1)) hk86 (Wk.rP _ [(0,0),(1,1),(2,2),(3,3),(4,4),(5,5),(6,6),(7,7)] hP (by rfl) (by simp [hhOk,back,Cat.cells,Mnd.cells,XAlgebra.cells,XAlgebras.cells,UA,U1,IA,I1,LA,L1,BA,B1,EA,E1,E2,eB,eI,eL,Qe _ Q1 _ (fun _=>rfl),Qe _ Q6 _ (fun _=>rfl)]))
    have g87:¬ (s86.2<(v5.length:Int)):=gQ
    clear g
    replace h:=if_r g87 h
    refine Qu ?_
    refine tx ?_
    refine lx ?_
    refine bh ?_
    cases h
    exact jn (b:=s86.1) hk86 (Wk.rP _ [(0,0),(1,1),(2,2),(3,3),(4,4),(5,5),(6,6),(7,7)] hP (by rfl) (by simp [hhOk,back,Cat.cells,Mnd.cells,XAlgebra.cells,XAlgebras.cells,UA,U1,IA,I1,LA,L1,BA,B1,EA,E1,E2,eB,eI,eL,Qe _ Q1 _ (fun _=>rfl),Qe _ Q6 _ (fun _=>rfl)]))
   intro b79 hb79
   have h:=h79
   rw [← hb79] at h
   clear h79
   try dsimp only at h
   refine Q8 ?_
   refine Q7R [] mo (by rw [hN];decide) fun K hK=>?_
   simp [-Q0,-Q9,-Q3,-Qa,-Q4,eL,eI,Q2,Q7,Qf,Q1,Q6,Cat.cells,Mnd.cells,XAlgebra.cells,XAlgebras.cells]
   repeat with_reducible refine sdQ ?_
   replace h:=bind_some h
   obtain ⟨v155,hv155,h⟩:=h
   refine Q5Y (fz:=[]) (Q3Y (ts:=[]) (e:={ v:=.tup [],set:=[(2,.mix 9 [[.rptr (Mnd.cells true m_),.val (.int .i64 (v5.length:Int)),.own 3 0 v77.length,.own 4 0 v78.length,.own 5 0 b79.length,.own 8 0 v155.length,.lst true 1 (Es Q1 v5),.own 6 0 b7.length,.cmap .str (Msi v76)]])],del:=[],new:=[(8,.row 1 (Ls v155))],cnt:=1 }) Tryz.func103 rfl rfl rfl (by simp [Tryz.f103]) (by simp) (fineI (by simp)) (newI (by rfl)) fun F hN hP=>?_) ?_
   ·clear h
    have h:=hv155
    clear hv155
    refine Q8 ?_
    refine Qw [] mo (by rw [hN];decide) fun K hK=>?_
    simp [-Q0,-Q9,-Q3,-Qa,-Q4,eL,eI,Q2,Q7,Qf,Q1,Q6,Cat.cells,Mnd.cells,XAlgebra.cells,XAlgebras.cells]
    repeat with_reducible refine sdQ ?_
    replace h:=bind_some h
    obtain ⟨v94,hv94,h⟩:=h
    refine QZ (fz:=[]) (Q18 _ v94 hv94) (.cons (.field rfl (by simp [Cat.cells,Mnd.cells,XAlgebra.cells,XAlgebras.cells]) (.cons .val (.cons (.whole (by simp) (by simp) (by simp)) (.cons (.whole (by simp) (by simp) (by simp)) (.cons (.whole (by simp) (by simp) (by simp)) (.cons .nil .nil)))))) .nil) ?_
    simp [-Q0,-Q9,-Q3,-Qa,-Q4,unk,unA,unE,unT,unC,flat,eL,eI,Q2,Q7,Qf,Q1,Q6,Cat.cells,Mnd.cells,XAlgebra.cells,XAlgebras.cells]
    repeat with_reducible refine sdQ ?_
    refine hK _ ?_;clear hK K
    refine tn ?_
    refine Qd (st':=⟨[(0,.adr 2 0 1),(1,.fn 104 [.adr 1 0 0,.adr 7 0 0]),(4,.val (.int .i64 v94))],[(0,.mix 5 [[.val (.int .i64 0),.val (.slice none 0 0),.val (.slice none 0 0),.val (.slice none 0 0),.val (.slice none 0 0)]]),(1,.mix 1 [[.adr 2 0 0]]),(2,.mix 9 [[.rptr (Mnd.cells true m_),.val (.int .i64 (v5.length:Int)),.own 3 0 v77.length,.own 4 0 v78.length,.own 5 0 b79.length,.val (.slice none 0 0),.lst true 1 (Es Q1 v5),.own 6 0 b7.length,.cmap .str (Msi v76)]]),(3,.row 1 (Is v77)),(4,.row 1 (Is v78)),(5,.row 1 (Is b79)),(6,.row 1 (Ls b7)),(7,.mix 1 [[.rptr (Mnd.cells true m_)]])],8⟩) (Wk.rP _ [(0,0),(1,1),(2,2),(3,3),(4,4),(5,5),(6,6),(7,7)] hP (by rfl) (by simp [hhOk,back,Cat.cells,Mnd.cells,XAlgebra.cells,XAlgebras.cells,UA,U1,IA,I1,LA,L1,BA,B1,EA,E1,E2,eB,eI,eL,Qe _ Q1 _ (fun _=>rfl),Qe _ Q6 _ (fun _=>rfl)])) ?_
    refine Q8 ?_
    refine Qw [11] mo (by rw [hN];decide) fun K hK=>?_
    replace h:=Qc h
    obtain ⟨a95,h⟩:=h
    simp [-Q0,-Q9,-Q3,-Qa,-Q4,eL,eI,Q2,Q7,Qf,Q1,Q6,Cat.cells,Mnd.cells,XAlgebra.cells,XAlgebras.cells]
    repeat with_reducible refine sdQ ?_
    refine hK _ ?_;clear hK K
    refine tn ?_
    refine Qd (st':=⟨[(0,.adr 2 0 1),(1,.fn 104 [.adr 1 0 0,.adr 7 0 0]),(4,.val (.int .i64 v94))],[(0,.mix 5 [[.val (.int .i64 0),.val (.slice none 0 0),.val (.slice none 0 0),.val (.slice none 0 0),.val (.slice none 0 0)]]),(1,.mix 1 [[.adr 2 0 0]]),(2,.mix 9 [[.rptr (Mnd.cells true m_),.val (.int .i64 (v5.length:Int)),.own 3 0 v77.length,.own 4 0 v78.length,.own 5 0 b79.length,.own 8 0 ((List.replicate v94.toNat ([]:List Int)).length),.lst true 1 (Es Q1 v5),.own 6 0 b7.length,.cmap .str (Msi v76)]]),(3,.row 1 (Is v77)),(4,.row 1 (Is v78)),(5,.row 1 (Is b79)),(6,.row 1 (Ls b7)),(7,.mix 1 [[.rptr (Mnd.cells true m_)]]),(8,.row 1 (Ls (List.replicate v94.toNat ([]:List Int))))],9⟩) (Wk.rP _ [(0,0),(1,1),(2,2),(3,3),(4,4),(5,5),(8,8),(6,6),(7,7)] hP (by rfl) (by simp [hhOk,back,Cat.cells,Mnd.cells,XAlgebra.cells,XAlgebras.cells,UA,U1,IA,I1,LA,L1,BA,B1,EA,E1,E2,eB,eI,eL,Qe _ Q1 _ (fun _=>rfl),Qe _ Q6 _ (fun _=>rfl)])) ?_
    refine Q8 ?_
    refine Qw [] mo (by rw [hN];decide) fun K hK=>?_
    simp [-Q0,-Q9,-Q3,-Qa,-Q4,eL,eI,Q2,Q7,Qf,Q1,Q6,Cat.cells,Mnd.cells,XAlgebra.cells,XAlgebras.cells]
    repeat with_reducible refine sdQ ?_
    refine hK _ ?_;clear hK K
    refine tn ?_
    refine Qd (st':=⟨[(0,.adr 2 0 1),(1,.fn 104 [.adr 1 0 0,.adr 7 0 0]),(4,.val (.int .i64 v94)),(18,.val (.int .i64 ((List.replicate v94.toNat ([]:List Int)).length:Int))),(19,.val (.int .i64 0))],[(0,.mix 5 [[.val (.int .i64 0),.val (.slice none 0 0),.val (.slice none 0 0),.val (.slice none 0 0),.val (.slice none 0 0)]]),(1,.mix 1 [[.adr 2 0 0]]),(2,.mix 9 [[.rptr (Mnd.cells true m_),.val (.int .i64 (v5.length:Int)),.own 3 0 v77.length,.own 4 0 v78.length,.own 5 0 b79.length,.own 8 0 ((List.replicate v94.toNat ([]:List Int)).length),.lst true 1 (Es Q1 v5),.own 6 0 b7.length,.cmap .str (Msi v76)]]),(3,.row 1 (Is v77)),(4,.row 1 (Is v78)),(5,.row 1 (Is b79)),(6,.row 1 (Ls b7)),(7,.mix 1 [[.rptr (Mnd.cells true m_)]]),(8,.row 1 (Ls (List.replicate v94.toNat ([]:List Int))))],9⟩) (Wk.rP _ [(0,0),(1,1),(2,2),(3,3),(4,4),(5,5),(8,8),(6,6),(7,7)] hP (by rfl) (by simp [hhOk,back,Cat.cells,Mnd.cells,XAlgebra.cells,XAlgebras.cells,UA,U1,IA,I1,LA,L1,BA,B1,EA,E1,E2,eB,eI,eL,Qe _ Q1 _ (fun _=>rfl),Qe _ Q6 _ (fun _=>rfl)])) ?_
    refine Qh ?_
    replace h:=bind_some h
    obtain ⟨e125,he125,h125⟩:=h
    refine QD he125 (fun s125:List (List Int) × Int=>⟨[(0,.adr 2 0 1),(1,.fn 104 [.adr 1 0 0,.adr 7 0 0]),(4,.val (.int .i64 v94)),(18,.val (.int .i64 ((List.replicate v94.toNat ([]:List Int)).length:Int))),(19,.val (.int .i64 s125.2))],[(0,.mix 5 [[.val (.int .i64 0),.val (.slice none 0 0),.val (.slice none 0 0),.val (.slice none 0 0),.val (.slice none 0 0)]]),(1,.mix 1 [[.adr 2 0 0]]),(2,.mix 9 [[.rptr (Mnd.cells true m_),.val (.int .i64 (v5.length:Int)),.own 3 0 v77.length,.own 4 0 v78.length,.own 5 0 b79.length,.own 8 0 s125.1.length,.lst true 1 (Es Q1 v5),.own 6 0 b7.length,.cmap .str (Msi v76)]]),(3,.row 1 (Is v77)),(4,.row 1 (Is v78)),(5,.row 1 (Is b79)),(6,.row 1 (Ls b7)),(7,.mix 1 [[.rptr (Mnd.cells true m_)]]),(8,.row 1 (Ls s125.1))],9⟩) (Wk.rP _ [(0,0),(1,1),(2,2),(3,3),(4,4),(5,5),(8,8),(6,6),(7,7)] hP (by rfl) (by simp [hhOk,back,Cat.cells,Mnd.cells,XAlgebra.cells,XAlgebras.cells,UA,U1,IA,I1,LA,L1,BA,B1,EA,E1,E2,eB,eI,eL,Qe _ Q1 _ (fun _=>rfl),Qe _ Q6 _ (fun _=>rfl)])) ?_
    intro k125 s125 c125 h hk125
    refine Q8 ?_
    refine Qw [] mo (by rw [hN];decide) fun K hK=>?_
    simp [-Q0,-Q9,-Q3,-Qa,-Q4,eL,eI,Q2,Q7,Qf,Q1,Q6,Cat.cells,Mnd.cells,XAlgebra.cells,XAlgebras.cells]
    repeat with_reducible refine sdQ ?_
    refine hK _ ?_;clear hK K
    refine tn ?_
    refine Qd (st':=⟨[(0,.adr 2 0 1),(1,.fn 104 [.adr 1 0 0,.adr 7 0 0]),(4,.val (.int .i64 v94)),(18,.val (.int .i64 ((List.replicate v94.toNat ([]:List Int)).length:Int))),(19,.val (.int .i64 s125.2)),(20,.val (.bool (decide (s125.2<((List.replicate v94.toNat ([]:List Int)).length:Int)))))],[(0,.mix 5 [[.val (.int .i64 0),.val (.slice none 0 0),.val (.slice none 0 0),.val (.slice none 0 0),.val (.slice none 0 0)]]),(1,.mix 1 [[.adr 2 0 0]]),(2,.mix 9 [[.rptr (Mnd.cells true m_),.val (.int .i64 (v5.length:Int)),.own 3 0 v77.length,.own 4 0 v78.length,.own 5 0 b79.length,.own 8 0 s125.1.length,.lst true 1 (Es Q1 v5),.own 6 0 b7.length,.cmap .str (Msi v76)]]),(3,.row 1 (Is v77)),(4,.row 1 (Is v78)),(5,.row 1 (Is b79)),(6,.row 1 (Ls b7)),(7,.mix 1 [[.rptr (Mnd.cells true m_)]]),(8,.row 1 (Ls s125.1))],9⟩) (Wk.rP _ [(0,0),(1,1),(2,2),(3,3),(4,4),(5,5),(8,8),(6,6),(7,7)] hP (by rfl) (by simp [hhOk,back,Cat.cells,Mnd.cells,XAlgebra.cells,XAlgebras.cells,UA,U1,IA,I1,LA,L1,BA,B1,EA,E1,E2,eB,eI,eL,Qe _ Q1 _ (fun _=>rfl),Qe _ Q6 _ (fun _=>rfl)])) ?_
    refine Q8 ?_
    refine Qi rfl (fun g=>?_) fun g=>?_
    ·have g126:s125.2<((List.replicate v94.toNat ([]:List Int)).length:Int):=gQ
     clear g
     replace h:=if_l g126 h
     refine Qj ?_
     refine tn ?_
     refine Q8 ?_
     replace h:=bind_some h
     obtain ⟨e127,h,h127⟩:=h
     refine Qp (fun b127:List (List Int)=>⟨[(0,.adr 2 0 1),(1,.fn 104 [.adr 1 0 0,.adr 7 0 0]),(4,.val (.int .i64 v94)),(18,.val (.int .i64 ((List.replicate v94.toNat ([]:List Int)).length:Int))),(19,.val (.int .i64 s125.2))],[(0,.mix 5 [[.val (.int .i64 0),.val (.slice none 0 0),.val (.slice none 0 0),.val (.slice none 0 0),.val (.slice none 0 0)]]),(1,.mix 1 [[.adr 2 0 0]]),(2,.mix 9 [[.rptr (Mnd.cells true m_),.val (.int .i64 (v5.length:Int)),.own 3 0 v77.length,.own 4 0 v78.length,.own 5 0 b79.length,.own 8 0 b127.length,.lst true 1 (Es Q1 v5),.own 6 0 b7.length,.cmap .str (Msi v76)]]),(3,.row 1 (Is v77)),(4,.row 1 (Is v78)),(5,.row 1 (Is b79)),(6,.row 1 (Ls b7)),(7,.mix 1 [[.rptr (Mnd.cells true m_)]]),(8,.row 1 (Ls b127))],9⟩) (fun b127=>b127=e127) ?_ ?_
     ·refine Qh ?_
      refine Q8 ?_
      refine Qw [] mo (by rw [hN];decide) fun K hK=>?_
      simp [-Q0,-Q9,-Q3,-Qa,-Q4,eL,eI,Q2,Q7,Qf,Q1,Q6,Cat.cells,Mnd.cells,XAlgebra.cells,XAlgebras.cells]
      repeat with_reducible refine sdQ ?_
      refine hK _ ?_;clear hK K
      refine tn ?_
      refine Qd (st':=⟨[(0,.adr 2 0 1),(1,.fn 104 [.adr 1 0 0,.adr 7 0 0]),(4,.val (.int .i64 v94)),(5,.val (.int .i64 s125.2)),(18,.val (.int .i64 ((List.replicate v94.toNat ([]:List Int)).length:Int))),(19,.val (.int .i64 s125.2))],[(0,.mix 5 [[.val (.int .i64 0),.val (.slice none 0 0),.val (.slice none 0 0),.val (.slice none 0 0),.val (.slice none 0 0)]]),(1,.mix 1 [[.adr 2 0 0]]),(2,.mix 9 [[.rptr (Mnd.cells true m_),.val (.int .i64 (v5.length:Int)),.own 3 0 v77.length,.own 4 0 v78.length,.own 5 0 b79.length,.own 8 0 s125.1.length,.lst true 1 (Es Q1 v5),.own 6 0 b7.length,.cmap .str (Msi v76)]]),(3,.row 1 (Is v77)),(4,.row 1 (Is v78)),(5,.row 1 (Is b79)),(6,.row 1 (Ls b7)),(7,.mix 1 [[.rptr (Mnd.cells true m_)]]),(8,.row 1 (Ls s125.1))],9⟩) (Wk.rP _ [(0,0),(1,1),(2,2),(3,3),(4,4),(5,5),(8,8),(6,6),(7,7)] hP (by rfl) (by simp [hhOk,back,Cat.cells,Mnd.cells,XAlgebra.cells,XAlgebras.cells,UA,U1,IA,I1,LA,L1,BA,B1,EA,E1,E2,eB,eI,eL,Qe _ Q1 _ (fun _=>rfl),Qe _ Q6 _ (fun _=>rfl)])) ?_
      refine Q8 ?_
      refine Qw [] mo (by rw [hN];decide) fun K hK=>?_
      replace h:=Qc h
      obtain ⟨a128,h⟩:=h
      replace h:=Qc h
      obtain ⟨a129,h⟩:=h
      simp [-Q0,-Q9,-Q3,-Qa,-Q4,eL,eI,Q2,Q7,Qf,Q1,Q6,Cat.cells,Mnd.cells,XAlgebra.cells,XAlgebras.cells,at_L a129]
      repeat with_reducible refine sdQ ?_
      refine stoX_row (fz:=[]) [] tf_22 rfl (b:=.lst true 1 (Is (List.replicate v94.toNat 0))) (ds:=[9]) (es2:=Ls (s125.1.set s125.2.toNat (List.replicate v94.toNat 0))) rfl (by simp) (by first|(simp;done)|(simp;omega)|omega) (by simp) (by simp) (by simp) (by simp) Ls_st ?_
      simp [-Q0,-Q9,-Q3,-Qa,-Q4,eL,eI,Q2,Q7,Qf,Q1,Q6,Cat.cells,Mnd.cells,XAlgebra.cells,XAlgebras.cells,at_L a129]
      repeat with_reducible refine sdQ ?_
      refine hK _ ?_;clear hK K
      refine tn ?_
      refine Qd (st':=⟨[(0,.adr 2 0 1),(1,.fn 104 [.adr 1 0 0,.adr 7 0 0]),(4,.val (.int .i64 v94)),(5,.val (.int .i64 s125.2)),(18,.val (.int .i64 ((List.replicate v94.toNat ([]:List Int)).length:Int))),(19,.val (.int .i64 s125.2))],[(0,.mix 5 [[.val (.int .i64 0),.val (.slice none 0 0),.val (.slice none 0 0),.val (.slice none 0 0),.val (.slice none 0 0)]]),(1,.mix 1 [[.adr 2 0 0]]),(2,.mix 9 [[.rptr (Mnd.cells true m_),.val (.int .i64 (v5.length:Int)),.own 3 0 v77.length,.own 4 0 v78.length,.own 5 0 b79.length,.own 8 0 ((s125.1.set s125.2.toNat (List.replicate v94.toNat 0)).length),.lst true 1 (Es Q1 v5),.own 6 0 b7.length,.cmap .str (Msi v76)]]),(3,.row 1 (Is v77)),(4,.row 1 (Is v78)),(5,.row 1 (Is b79)),(6,.row 1 (Ls b7)),(7,.mix 1 [[.rptr (Mnd.cells true m_)]]),(8,.row 1 (Ls (s125.1.set s125.2.toNat (List.replicate v94.toNat 0))))],9⟩) (Wk.rP _ [(0,0),(1,1),(2,2),(3,3),(4,4),(5,5),(8,8),(6,6),(7,7)] hP (by rfl) (by simp [hhOk,back,Cat.cells,Mnd.cells,XAlgebra.cells,XAlgebras.cells,UA,U1,IA,I1,LA,L1,BA,B1,EA,E1,E2,eB,eI,eL,Qe _ Q1 _ (fun _=>rfl),Qe _ Q6 _ (fun _=>rfl)])) ?_
      refine Q8 ?_
      refine Qw [] mo (by rw [hN];decide) fun K hK=>?_
      replace h:=Qc h
      obtain ⟨a130,h⟩:=h
      simp [-Q0,-Q9,-Q3,-Qa,-Q4,eL,eI,Q2,Q7,Qf,Q1,Q6,Cat.cells,Mnd.cells,XAlgebra.cells,XAlgebras.cells,at_L a130]
      repeat with_reducible refine sdQ ?_
      refine hK _ ?_;clear hK K
      refine tn ?_
      refine Qd (st':=⟨[(0,.adr 2 0 1),(1,.fn 104 [.adr 1 0 0,.adr 7 0 0]),(4,.val (.int .i64 v94)),(5,.val (.int .i64 s125.2)),(18,.val (.int .i64 ((List.replicate v94.toNat ([]:List Int)).length:Int))),(19,.val (.int .i64 s125.2)),(37,.val (.int .i64 ((rx (s125.1.set s125.2.toNat (List.replicate v94.toNat 0)) s125.2).length:Int))),(38,.val (.int .i64 0))],[(0,.mix 5 [[.val (.int .i64 0),.val (.slice none 0 0),.val (.slice none 0 0),.val (.slice none 0 0),.val (.slice none 0 0)]]),(1,.mix 1 [[.adr 2 0 0]]),(2,.mix 9 [[.rptr (Mnd.cells true m_),.val (.int .i64 (v5.length:Int)),.own 3 0 v77.length,.own 4 0 v78.length,.own 5 0 b79.length,.own 8 0 ((s125.1.set s125.2.toNat (List.replicate v94.toNat 0)).length),.lst true 1 (Es Q1 v5),.own 6 0 b7.length,.cmap .str (Msi v76)]]),(3,.row 1 (Is v77)),(4,.row 1 (Is v78)),(5,.row 1 (Is b79)),(6,.row 1 (Ls b7)),(7,.mix 1 [[.rptr (Mnd.cells true m_)]]),(8,.row 1 (Ls (s125.1.set s125.2.toNat (List.replicate v94.toNat 0))))],9⟩) (Wk.rP _ [(0,0),(1,1),(2,2),(3,3),(4,4),(5,5),(8,8),(6,6),(7,7)] hP (by rfl) (by simp [hhOk,back,Cat.cells,Mnd.cells,XAlgebra.cells,XAlgebras.cells,UA,U1,IA,I1,LA,L1,BA,B1,EA,E1,E2,eB,eI,eL,Qe _ Q1 _ (fun _=>rfl),Qe _ Q6 _ (fun _=>rfl)])) ?_
      refine Qh ?_
      replace h:=bind_some h
      obtain ⟨e142,he142,h142⟩:=h
      refine QD he142 (fun s142:List (List Int) × Int=>⟨[(0,.adr 2 0 1),(1,.fn 104 [.adr 1 0 0,.adr 7 0 0]),(4,.val (.int .i64 v94)),(5,.val (.int .i64 s125.2)),(18,.val (.int .i64 ((List.replicate v94.toNat ([]:List Int)).length:Int))),(19,.val (.int .i64 s125.2)),(37,.val (.int .i64 ((rx (s125.1.set s125.2.toNat (List.replicate v94.toNat 0)) s125.2).length:Int))),(38,.val (.int .i64 s142.2))],[(0,.mix 5 [[.val (.int .i64 0),.val (.slice none 0 0),.val (.slice none 0 0),.val (.slice none 0 0),.val (.slice none 0 0)]]),(1,.mix 1 [[.adr 2 0 0]]),(2,.mix 9 [[.rptr (Mnd.cells true m_),.val (.int .i64 (v5.length:Int)),.own 3 0 v77.length,.own 4 0 v78.length,.own 5 0 b79.length,.own 8 0 s142.1.length,.lst true 1 (Es Q1 v5),.own 6 0 b7.length,.cmap .str (Msi v76)]]),(3,.row 1 (Is v77)),(4,.row 1 (Is v78)),(5,.row 1 (Is b79)),(6,.row 1 (Ls b7)),(7,.mix 1 [[.rptr (Mnd.cells true m_)]]),(8,.row 1 (Ls s142.1))],9⟩) (Wk.rP _ [(0,0),(1,1),(2,2),(3,3),(4,4),(5,5),(8,8),(6,6),(7,7)] hP (by rfl) (by simp [hhOk,back,Cat.cells,Mnd.cells,XAlgebra.cells,XAlgebras.cells,UA,U1,IA,I1,LA,L1,BA,B1,EA,E1,E2,eB,eI,eL,Qe _ Q1 _ (fun _=>rfl),Qe _ Q6 _ (fun _=>rfl)])) ?_
      intro k142 s142 c142 h hk142
      refine Q8 ?_
      refine Qw [] mo (by rw [hN];decide) fun K hK=>?_
      simp [-Q0,-Q9,-Q3,-Qa,-Q4,eL,eI,Q2,Q7,Qf,Q1,Q6,Cat.cells,Mnd.cells,XAlgebra.cells,XAlgebras.cells]
      repeat with_reducible refine sdQ ?_
      refine hK _ ?_;clear hK K
      refine tn ?_
      refine Qd (st':=⟨[(0,.adr 2 0 1),(1,.fn 104 [.adr 1 0 0,.adr 7 0 0]),(4,.val (.int .i64 v94)),(5,.val (.int .i64 s125.2)),(18,.val (.int .i64 ((List.replicate v94.toNat ([]:List Int)).length:Int))),(19,.val (.int .i64 s125.2)),(37,.val (.int .i64 ((rx (s125.1.set s125.2.toNat (List.replicate v94.toNat 0)) s125.2).length:Int))),(38,.val (.int .i64 s142.2)),(39,.val (.bool (decide (s142.2<((rx (s125.1.set s125.2.toNat (List.replicate v94.toNat 0)) s125.2).length:Int)))))],[(0,.mix 5 [[.val (.int .i64 0),.val (.slice none 0 0),.val (.slice none 0 0),.val (.slice none 0 0),.val (.slice none 0 0)]]),(1,.mix 1 [[.adr 2 0 0]]),(2,.mix 9 [[.rptr (Mnd.cells true m_),.val (.int .i64 (v5.length:Int)),.own 3 0 v77.length,.own 4 0 v78.length,.own 5 0 b79.length,.own 8 0 s142.1.length,.lst true 1 (Es Q1 v5),.own 6 0 b7.length,.cmap .str (Msi v76)]]),(3,.row 1 (Is v77)),(4,.row 1 (Is v78)),(5,.row 1 (Is b79)),(6,.row 1 (Ls b7)),(7,.mix 1 [[.rptr (Mnd.cells true m_)]]),(8,.row 1 (Ls s142.1))],9⟩) (Wk.rP _ [(0,0),(1,1),(2,2),(3,3),(4,4),(5,5),(8,8),(6,6),(7,7)] hP (by rfl) (by simp [hhOk,back,Cat.cells,Mnd.cells,XAlgebra.cells,XAlgebras.cells,UA,U1,IA,I1,LA,L1,BA,B1,EA,E1,E2,eB,eI,eL,Qe _ Q1 _ (fun _=>rfl),Qe _ Q6 _ (fun _=>rfl)])) ?_
      refine Q8 ?_
      refine Qi rfl (fun g=>?_) fun g=>?_
      ·have g143:s142.2<((rx (s125.1.set s125.2.toNat (List.replicate v94.toNat 0)) s125.2).length:Int):=gQ
       clear g
       replace h:=if_l g143 h
       refine Qj ?_
       refine tn ?_
       refine Q8 ?_
       replace h:=bind_some h
       obtain ⟨e144,h,h144⟩:=h
       refine Qp (fun b144:List (List Int)=>⟨[(0,.adr 2 0 1),(1,.fn 104 [.adr 1 0 0,.adr 7 0 0]),(4,.val (.int .i64 v94)),(5,.val (.int .i64 s125.2)),(18,.val (.int .i64 ((List.replicate v94.toNat ([]:List Int)).length:Int))),(19,.val (.int .i64 s125.2)),(37,.val (.int .i64 ((rx (s125.1.set s125.2.toNat (List.replicate v94.toNat 0)) s125.2).length:Int))),(38,.val (.int .i64 s142.2))],[(0,.mix 5 [[.val (.int .i64 0),.val (.slice none 0 0),.val (.slice none 0 0),.val (.slice none 0 0),.val (.slice none 0 0)]]),(1,.mix 1 [[.adr 2 0 0]]),(2,.mix 9 [[.rptr (Mnd.cells true m_),.val (.int .i64 (v5.length:Int)),.own 3 0 v77.length,.own 4 0 v78.length,.own 5 0 b79.length,.own 8 0 b144.length,.lst true 1 (Es Q1 v5),.own 6 0 b7.length,.cmap .str (Msi v76)]]),(3,.row 1 (Is v77)),(4,.row 1 (Is v78)),(5,.row 1 (Is b79)),(6,.row 1 (Ls b7)),(7,.mix 1 [[.rptr (Mnd.cells true m_)]]),(8,.row 1 (Ls b144))],9⟩) (fun b144=>b144=e144) ?_ ?_
       ·refine Qh ?_
        refine Q8 ?_
        refine Qw [] mo (by rw [hN];decide) fun K hK=>?_
        simp [-Q0,-Q9,-Q3,-Qa,-Q4,eL,eI,Q2,Q7,Qf,Q1,Q6,Cat.cells,Mnd.cells,XAlgebra.cells,XAlgebras.cells]
        repeat with_reducible refine sdQ ?_
        refine hK _ ?_;clear hK K
        refine tn ?_
        refine Qd (st':=⟨[(0,.adr 2 0 1),(1,.fn 104 [.adr 1 0 0,.adr 7 0 0]),(4,.val (.int .i64 v94)),(5,.val (.int .i64 s125.2)),(6,.val (.int .i64 s142.2)),(18,.val (.int .i64 ((List.replicate v94.toNat ([]:List Int)).length:Int))),(19,.val (.int .i64 s125.2)),(37,.val (.int .i64 ((rx (s125.1.set s125.2.toNat (List.replicate v94.toNat 0)) s125.2).length:Int))),(38,.val (.int .i64 s142.2))],[(0,.mix 5 [[.val (.int .i64 0),.val (.slice none 0 0),.val (.slice none 0 0),.val (.slice none 0 0),.val (.slice none 0 0)]]),(1,.mix 1 [[.adr 2 0 0]]),(2,.mix 9 [[.rptr (Mnd.cells true m_),.val (.int .i64 (v5.length:Int)),.own 3 0 v77.length,.own 4 0 v78.length,.own 5 0 b79.length,.own 8 0 s142.1.length,.lst true 1 (Es Q1 v5),.own 6 0 b7.length,.cmap .str (Msi v76)]]),(3,.row 1 (Is v77)),(4,.row 1 (Is v78)),(5,.row 1 (Is b79)),(6,.row 1 (Ls b7)),(7,.mix 1 [[.rptr (Mnd.cells true m_)]]),(8,.row 1 (Ls s142.1))],9⟩) (Wk.rP _ [(0,0),(1,1),(2,2),(3,3),(4,4),(5,5),(8,8),(6,6),(7,7)] hP (by rfl) (by simp [hhOk,back,Cat.cells,Mnd.cells,XAlgebra.cells,XAlgebras.cells,UA,U1,IA,I1,LA,L1,BA,B1,EA,E1,E2,eB,eI,eL,Qe _ Q1 _ (fun _=>rfl),Qe _ Q6 _ (fun _=>rfl)])) ?_
        refine Q8 ?_
        refine Qw [] mo (by rw [hN];decide) fun K hK=>?_
        replace h:=Qc h
        obtain ⟨a145,h⟩:=h
        replace h:=Qc h
        obtain ⟨a146,h⟩:=h
        simp [-Q0,-Q9,-Q3,-Qa,-Q4,eL,eI,Q2,Q7,Qf,Q1,Q6,Cat.cells,Mnd.cells,XAlgebra.cells,XAlgebras.cells,at_L a145,at_I a146]
        repeat with_reducible refine sdQ ?_
        refine hK _ ?_;clear hK K
        refine tn ?_
        refine Qd (st':=⟨[(0,.adr 2 0 1),(1,.fn 104 [.adr 1 0 0,.adr 7 0 0]),(4,.val (.int .i64 v94)),(5,.val (.int .i64 s125.2)),(6,.val (.int .i64 s142.2)),(18,.val (.int .i64 ((List.replicate v94.toNat ([]:List Int)).length:Int))),(19,.val (.int .i64 s125.2)),(37,.val (.int .i64 ((rx (s125.1.set s125.2.toNat (List.replicate v94.toNat 0)) s125.2).length:Int))),(38,.val (.int .i64 s142.2))],[(0,.mix 5 [[.val (.int .i64 0),.val (.slice none 0 0),.val (.slice none 0 0),.val (.slice none 0 0),.val (.slice none 0 0)]]),(1,.mix 1 [[.adr 2 0 0]]),(2,.mix 9 [[.rptr (Mnd.cells true m_),.val (.int .i64 (v5.length:Int)),.own 3 0 v77.length,.own 4 0 v78.length,.own 5 0 b79.length,.own 8 0 ((s142.1.set s125.2.toNat ((rx s142.1 s125.2).set s142.2.toNat (-1))).length),.lst true 1 (Es Q1 v5),.own 6 0 b7.length,.cmap .str (Msi v76)]]),(3,.row 1 (Is v77)),(4,.row 1 (Is v78)),(5,.row 1 (Is b79)),(6,.row 1 (Ls b7)),(7,.mix 1 [[.rptr (Mnd.cells true m_)]]),(8,.row 1 (Ls (s142.1.set s125.2.toNat ((rx s142.1 s125.2).set s142.2.toNat (-1)))))],9⟩) (Wk.rP _ [(0,0),(1,1),(2,2),(3,3),(4,4),(5,5),(8,8),(6,6),(7,7)] hP (by rfl) (by simp [hhOk,back,Cat.cells,Mnd.cells,XAlgebra.cells,XAlgebras.cells,UA,U1,IA,I1,LA,L1,BA,B1,EA,E1,E2,eB,eI,eL,Qe _ Q1 _ (fun _=>rfl),Qe _ Q6 _ (fun _=>rfl)])) ?_
        refine Q8 ?_
        refine Qw [] mo (by rw [hN];decide) fun K hK=>?_
        replace h:=Qc h
        obtain ⟨a147,h⟩:=h
        replace h:=Qc h
        obtain ⟨a148,h⟩:=h
        simp [-Q0,-Q9,-Q3,-Qa,-Q4,eL,eI,Q2,Q7,Qf,Q1,Q6,Cat.cells,Mnd.cells,XAlgebra.cells,XAlgebras.cells,at_I a147,at_I a148]
        repeat with_reducible refine sdQ ?_
        refine hK _ ?_;clear hK K
        refine tn ?_
        refine Qd (st':=⟨[(0,.adr 2 0 1),(1,.fn 104 [.adr 1 0 0,.adr 7 0 0]),(4,.val (.int .i64 v94)),(5,.val (.int .i64 s125.2)),(6,.val (.int .i64 s142.2)),(18,.val (.int .i64 ((List.replicate v94.toNat ([]:List Int)).length:Int))),(19,.val (.int .i64 s125.2)),(37,.val (.int .i64 ((rx (s125.1.set s125.2.toNat (List.replicate v94.toNat 0)) s125.2).length:Int))),(38,.val (.int .i64 s142.2)),(64,.val (.bool ((ix v78 s125.2) == (ix v77 s142.2))))],[(0,.mix 5 [[.val (.int .i64 0),.val (.slice none 0 0),.val (.slice none 0 0),.val (.slice none 0 0),.val (.slice none 0 0)]]),(1,.mix 1 [[.adr 2 0 0]]),(2,.mix 9 [[.rptr (Mnd.cells true m_),.val (.int .i64 (v5.length:Int)),.own 3 0 v77.length,.own 4 0 v78.length,.own 5 0 b79.length,.own 8 0 ((s142.1.set s125.2.toNat ((rx s142.1 s125.2).set s142.2.toNat (-1))).length),.lst true 1 (Es Q1 v5),.own 6 0 b7.length,.cmap .str (Msi v76)]]),(3,.row 1 (Is v77)),(4,.row 1 (Is v78)),(5,.row 1 (Is b79)),(6,.row 1 (Ls b7)),(7,.mix 1 [[.rptr (Mnd.cells true m_)]]),(8,.row 1 (Ls (s142.1.set s125.2.toNat ((rx s142.1 s125.2).set s142.2.toNat (-1)))))],9⟩) (Wk.rP _ [(0,0),(1,1),(2,2),(3,3),(4,4),(5,5),(8,8),(6,6),(7,7)] hP (by rfl) (by simp [hhOk,back,Cat.cells,Mnd.cells,XAlgebra.cells,XAlgebras.cells,UA,U1,IA,I1,LA,L1,BA,B1,EA,E1,E2,eB,eI,eL,Qe _ Q1 _ (fun _=>rfl),Qe _ Q6 _ (fun _=>rfl)])) ?_
        refine Qi rfl (fun g=>?_) fun g=>?_
        ·have g149:(ix v78 s125.2)=(ix v77 s142.2):=gQ
         clear g
         replace h:=if_l g149 h
         refine Qw [] mo (by rw [hN];decide) fun K hK=>?_
         replace h:=Qc h
         obtain ⟨a150,h⟩:=h
         simp [-Q0,-Q9,-Q3,-Qa,-Q4,eL,eI,Q2,Q7,Qf,Q1,Q6,Cat.cells,Mnd.cells,XAlgebra.cells,XAlgebras.cells,at_L a150]
         repeat with_reducible refine sdQ ?_
         replace h:=bind_some h
         obtain ⟨v151,hv151,h⟩:=h
         refine QZ (fz:=[]) (Q2p _ _ _ _ v151 hv151) (.cons .val (.cons .val (.cons (.field rfl (by simp [Cat.cells,Mnd.cells,XAlgebra.cells,XAlgebras.cells]) (.cons (.field rfl (by simp [Cat.cells,Mnd.cells,XAlgebra.cells,XAlgebras.cells]) (.cons (.preT (by simp [Cat.cells,Mnd.cells,XAlgebra.cells,XAlgebras.cells])) (.cons .val (.cons (.whole (by simp) (by simp) (by simp)) (.cons (.whole (by simp) (by simp) (by simp)) (.cons (.whole (by simp) (by simp) (by simp)) (.cons (.whole (by simp) (by simp) (by simp)) (.cons .lst (.cons (.whole (by simp) (by simp) (by simp)) (.cons .cmap .nil)))))))))) .nil)) (.cons (.field rfl (by simp [Cat.cells,Mnd.cells,XAlgebra.cells,XAlgebras.cells]) (.cons (.preT (by simp [Cat.cells,Mnd.cells,XAlgebra.cells,XAlgebras.cells])) .nil)) .nil)))) ?_
         replace h:=Qc h
         obtain ⟨a152,h⟩:=h
         simp [-Q0,-Q9,-Q3,-Qa,-Q4,unk,unA,unE,unT,unC,flat,eL,eI,Q2,Q7,Qf,Q1,Q6,Cat.cells,Mnd.cells,XAlgebra.cells,XAlgebras.cells,at_L a150,at_I a152]
         repeat with_reducible refine sdQ ?_
         refine hK _ ?_;clear hK K
         refine bn ?_
         exact jn (b:=(s142.1.set s125.2.toNat ((rx s142.1 s125.2).set s142.2.toNat (-1))).set s125.2.toNat ((rx (s142.1.set s125.2.toNat ((rx s142.1 s125.2).set s142.2.toNat (-1))) s125.2).set s142.2.toNat v151)) (Option.some.inj h) (Wk.rP _ [(0,0),(1,1),(2,2),(3,3),(4,4),(5,5),(8,8),(6,6),(7,7)] hP (by rfl) (by simp [hhOk,back,Cat.cells,Mnd.cells,XAlgebra.cells,XAlgebras.cells,UA,U1,IA,I1,LA,L1,BA,B1,EA,E1,E2,eB,eI,eL,Qe _ Q1 _ (fun _=>rfl),Qe _ Q6 _ (fun _=>rfl)]))
        have g149:¬ ((ix v78 s125.2)=(ix v77 s142.2)):=gQ
        clear g
        replace h:=if_r g149 h
        refine Qj ?_
        refine bn ?_
        exact jn (b:=s142.1.set s125.2.toNat ((rx s142.1 s125.2).set s142.2.toNat (-1))) (Option.some.inj h) (Wk.rP _ [(0,0),(1,1),(2,2),(3,3),(4,4),(5,5),(8,8),(6,6),(7,7)] hP (by rfl) (by simp [hhOk,back,Cat.cells,Mnd.cells,XAlgebra.cells,XAlgebras.cells,UA,U1,IA,I1,LA,L1,BA,B1,EA,E1,E2,eB,eI,eL,Qe _ Q1 _ (fun _=>rfl),Qe _ Q6 _ (fun _=>rfl)]))
       intro b144 hb144
       have h:=h144
       rw [← hb144] at h
       clear h144
       try dsimp only at h
       refine Qw [] mo (by rw [hN];decide) fun K hK=>?_
       replace h:=Qc h
       obtain ⟨a153,h⟩:=h
       simp [-Q0,-Q9,-Q3,-Qa,-Q4,eL,eI,Q2,Q7,Qf,Q1,Q6,Cat.cells,Mnd.cells,XAlgebra.cells,XAlgebras.cells,QA a153]
       repeat with_reducible refine sdQ ?_
       refine hK _ ?_;clear hK K
       cases h
       exact rn (s':=(b144,s142.2+1)) hk142 (Wk.rP _ [(0,0),(1,1),(2,2),(3,3),(4,4),(5,5),(8,8),(6,6),(7,7)] hP (by rfl) (by simp [hhOk,back,Cat.cells,Mnd.cells,XAlgebra.cells,XAlgebras.cells,UA,U1,IA,I1,LA,L1,BA,B1,EA,E1,E2,eB,eI,eL,Qe _ Q1 _ (fun _=>rfl),Qe _ Q6 _ (fun _=>rfl)]))
      have g143:¬ (s142.2<((rx (s125.1.set s125.2.toNat (List.replicate v94.toNat 0)) s125.2).length:Int)):=gQ
      clear g
      replace h:=if_r g143 h
      refine Qu ?_
      refine tx ?_
      refine lx ?_
      refine bh ?_
      refine bn ?_
      cases h
      have q:_=e142:=hk142
      have h:=h142
      rw [← q] at h
      clear q
      try dsimp only at h
      exact jn (b:=s142.1) (Option.some.inj h) (Wk.rP _ [(0,0),(1,1),(2,2),(3,3),(4,4),(5,5),(8,8),(6,6),(7,7)] hP (by rfl) (by simp [hhOk,back,Cat.cells,Mnd.cells,XAlgebra.cells,XAlgebras.cells,UA,U1,IA,I1,LA,L1,BA,B1,EA,E1,E2,eB,eI,eL,Qe _ Q1 _ (fun _=>rfl),Qe _ Q6 _ (fun _=>rfl)]))
     intro b127 hb127
     have h:=h127
     rw [← hb127] at h
     clear h127
     try dsimp only at h
     refine Qw [] mo (by rw [hN];decide) fun K hK=>?_
     replace h:=Qc h
     obtain ⟨a154,h⟩:=h
     simp [-Q0,-Q9,-Q3,-Qa,-Q4,eL,eI,Q2,Q7,Qf,Q1,Q6,Cat.cells,Mnd.cells,XAlgebra.cells,XAlgebras.cells,QA a154]
     repeat with_reducible refine sdQ ?_
     refine hK _ ?_;clear hK K
     cases h
     exact rn (s':=(b127,s125.2+1)) hk125 (Wk.rP _ [(0,0),(1,1),(2,2),(3,3),(4,4),(5,5),(8,8),(6,6),(7,7)] hP (by rfl) (by simp [hhOk,back,Cat.cells,Mnd.cells,XAlgebra.cells,XAlgebras.cells,UA,U1,IA,I1,LA,L1,BA,B1,EA,E1,E2,eB,eI,eL,Qe _ Q1 _ (fun _=>rfl),Qe _ Q6 _ (fun _=>rfl)]))
    have g126:¬ (s125.2<((List.replicate v94.toNat ([]:List Int)).length:Int)):=gQ
    clear g
    replace h:=if_r g126 h
    refine Qu ?_
    refine tx ?_
    refine lx ?_
    refine bh ?_
    cases h
    have q:_=e125:=hk125
    have h:=h125
    rw [← q] at h
    clear q
    try dsimp only at h
    cases h
    first|refine iw_r (st':=⟨[],[(0,.mix 5 [[.val (.int .i64 0),.val (.slice none 0 0),.val (.slice none 0 0),.val (.slice none 0 0),.val (.slice none 0 0)]]),(1,.mix 1 [[.adr 2 0 0]]),(2,.mix 9 [[.rptr (Mnd.cells true m_),.val (.int .i64 (v5.length:Int)),.own 3 0 v77.length,.own 4 0 v78.length,.own 5 0 b79.length,.own 8 0 s125.1.length,.lst true 1 (Es Q1 v5),.own 6 0 b7.length,.cmap .str (Msi v76)]]),(3,.row 1 (Is v77)),(4,.row 1 (Is v78)),(5,.row 1 (Is b79)),(6,.row 1 (Ls b7)),(7,.mix 1 [[.rptr (Mnd.cells true m_)]]),(8,.row 1 (Ls s125.1))],9⟩) ?_ ?_|refine iw_n (st':=⟨[],[(0,.mix 5 [[.val (.int .i64 0),.val (.slice none 0 0),.val (.slice none 0 0),.val (.slice none 0 0),.val (.slice none 0 0)]]),(1,.mix 1 [[.adr 2 0 0]]),(2,.mix 9 [[.rptr (Mnd.cells true m_),.val (.int .i64 (v5.length:Int)),.own 3 0 v77.length,.own 4 0 v78.length,.own 5 0 b79.length,.own 8 0 s125.1.length,.lst true 1 (Es Q1 v5),.own 6 0 b7.length,.cmap .str (Msi v76)]]),(3,.row 1 (Is v77)),(4,.row 1 (Is v78)),(5,.row 1 (Is b79)),(6,.row 1 (Ls b7)),(7,.mix 1 [[.rptr (Mnd.cells true m_)]]),(8,.row 1 (Ls s125.1))],9⟩) ?_ ?_
    ·exact Wk.rP _ [(0,0),(1,1),(2,2),(3,3),(4,4),(5,5),(8,8),(6,6),(7,7)] hP (by rfl) (by simp [hhOk,back,Cat.cells,Mnd.cells,XAlgebra.cells,XAlgebras.cells,UA,U1,IA,I1,LA,L1,BA,B1,EA,E1,E2,eB,eI,eL,Qe _ Q1 _ (fun _=>rfl),Qe _ Q6 _ (fun _=>rfl)])
    exact ⟨by simp [Q1e],by simp,by simp [Cat.cells,Mnd.cells,XAlgebra.cells,XAlgebras.cells]⟩
   simp [-Q0,-Q9,-Q3,-Qa,-Q4,unk,unA,unE,unT,unC,flat,eL,eI,Q2,Q7,Qf,Q1,Q6,Cat.cells,Mnd.cells,XAlgebra.cells,XAlgebras.cells]
   repeat with_reducible refine sdQ ?_
   refine hK _ ?_;clear hK K
   refine tn ?_
   refine Qd (st':=⟨[(4,.adr 1 0 0)],[(0,.mix 5 [[.val (.int .i64 0),.val (.slice none 0 0),.val (.slice none 0 0),.val (.slice none 0 0),.val (.slice none 0 0)]]),(1,.mix 1 [[.adr 2 0 0]]),(2,.mix 9 [[.rptr (Mnd.cells true m_),.val (.int .i64 (v5.length:Int)),.own 3 0 v77.length,.own 4 0 v78.length,.own 5 0 b79.length,.own 6 0 v155.length,.lst true 1 (Es Q1 v5),.own 7 0 b7.length,.cmap .str (Msi v76)]]),(3,.row 1 (Is v77)),(4,.row 1 (Is v78)),(5,.row 1 (Is b79)),(6,.row 1 (Ls v155)),(7,.row 1 (Ls b7))],8⟩) (Wk.rP _ [(0,0),(1,1),(2,2),(3,3),(4,4),(5,5),(8,6),(6,7)] hP (by rfl) (by simp [hhOk,back,Cat.cells,Mnd.cells,XAlgebra.cells,XAlgebras.cells,UA,U1,IA,I1,LA,L1,BA,B1,EA,E1,E2,eB,eI,eL,Qe _ Q1 _ (fun _=>rfl),Qe _ Q6 _ (fun _=>rfl)])) ?_
   refine Q8 ?_
   refine Qw [] mo (by rw [hN];decide) fun K hK=>?_
   simp [-Q0,-Q9,-Q3,-Qa,-Q4,eL,eI,Q2,Q7,Qf,Q1,Q6,Cat.cells,Mnd.cells,XAlgebra.cells,XAlgebras.cells]
   repeat with_reducible refine sdQ ?_
   refine hK _ ?_;clear hK K
   refine tn ?_
   refine Qd (st':=⟨[(2,.adr 1 0 0),(3,.val (.bool true))],[(0,.mix 5 [[.val (.int .i64 0),.val (.slice none 0 0),.val (.slice none 0 0),.val (.slice none 0 0),.val (.slice none 0 0)]]),(1,.mix 9 [[.rptr (Mnd.cells true m_),.val (.int .i64 (v5.length:Int)),.own 2 0 v77.length,.own 3 0 v78.length,.own 4 0 b79.length,.own 5 0 v155.length,.lst true 1 (Es Q1 v5),.own 6 0 b7.length,.cmap .str (Msi v76)]]),(2,.row 1 (Is v77)),(3,.row 1 (Is v78)),(4,.row 1 (Is b79)),(5,.row 1 (Ls v155)),(6,.row 1 (Ls b7))],7⟩) (Wk.rP _ [(0,0),(2,1),(3,2),(4,3),(5,4),(6,5),(7,6)] hP (by rfl) (by simp [hhOk,back,Cat.cells,Mnd.cells,XAlgebra.cells,XAlgebras.cells,UA,U1,IA,I1,LA,L1,BA,B1,EA,E1,E2,eB,eI,eL,Qe _ Q1 _ (fun _=>rfl),Qe _ Q6 _ (fun _=>rfl)])) ?_
   refine Qn ?_
   cases h
   try dsimp only
   first|refine iw_r (st':=⟨[(2,.adr 1 0 0),(3,.val (.bool true))],[(0,.mix 5 [[.val (.int .i64 0),.val (.slice none 0 0),.val (.slice none 0 0),.val (.slice none 0 0),.val (.slice none 0 0)]]),(1,.mix 9 [[.rptr (Mnd.cells true m_),.val (.int .i64 (v5.length:Int)),.own 2 0 v77.length,.own 3 0 v78.length,.own 4 0 b79.length,.own 5 0 v155.length,.lst true 1 (Es Q1 v5),.own 6 0 b7.length,.cmap .str (Msi v76)]]),(2,.row 1 (Is v77)),(3,.row 1 (Is v78)),(4,.row 1 (Is b79)),(5,.row 1 (Ls v155)),(6,.row 1 (Ls b7))],7⟩) ?_ ?_|refine iw_n (st':=⟨[(2,.adr 1 0 0),(3,.val (.bool true))],[(0,.mix 5 [[.val (.int .i64 0),.val (.slice none 0 0),.val (.slice none 0 0),.val (.slice none 0 0),.val (.slice none 0 0)]]),(1,.mix 9 [[.rptr (Mnd.cells true m_),.val (.int .i64 (v5.length:Int)),.own 2 0 v77.length,.own 3 0 v78.length,.own 4 0 b79.length,.own 5 0 v155.length,.lst true 1 (Es Q1 v5),.own 6 0 b7.length,.cmap .str (Msi v76)]]),(2,.row 1 (Is v77)),(3,.row 1 (Is v78)),(4,.row 1 (Is b79)),(5,.row 1 (Ls v155)),(6,.row 1 (Ls b7))],7⟩) ?_ ?_
   ·exact Wk.rP _ [(0,0),(1,1),(2,2),(3,3),(4,4),(5,5),(6,6)] hP (by rfl) (by simp [hhOk,back,Cat.cells,Mnd.cells,XAlgebra.cells,XAlgebras.cells,UA,U1,IA,I1,LA,L1,BA,B1,EA,E1,E2,eB,eI,eL,Qe _ Q1 _ (fun _=>rfl),Qe _ Q6 _ (fun _=>rfl)])
   exact ⟨by simp [Q1e],by simp,by simp [Cat.cells,Mnd.cells,XAlgebra.cells,XAlgebras.cells]⟩
  clear hv156
  rcases v156 with v156|v156
  ·try dsimp only at h
   try dsimp only
   simp [-Q0,-Q9,-Q3,-Qa,-Q4,unk,unA,unE,unT,unC,flat,eL,eI,Q2,Q7,Qf,Q1,Q6,Cat.cells,Mnd.cells,XAlgebra.cells,XAlgebras.cells]
   repeat with_reducible refine sdQ ?_
   refine hK _ ?_;clear hK K
   refine tn ?_
   refine Qd (st':=⟨[(4,.val (.pointer none)),(5,.val (.bool false))],[(0,.mix 5 [[.val (.int .i64 0),.val (.slice none 0 0),.val (.slice none 0 0),.val (.slice none 0 0),.val (.slice none 0 0)]])],1⟩) (Wk.rP _ [(0,0)] hP (by rfl) (by simp [hhOk,back,Cat.cells,Mnd.cells,XAlgebra.cells,XAlgebras.cells,UA,U1,IA,I1,LA,L1,BA,B1,EA,E1,E2,eB,eI,eL,Qe _ Q1 _ (fun _=>rfl),Qe _ Q6 _ (fun _=>rfl)])) ?_
   refine Q8 ?_
   refine Q8 ?_
   refine Qw [] mo (by rw [hN];decide) fun K hK=>?_
   simp [-Q0,-Q9,-Q3,-Qa,-Q4,eL,eI,Q2,Q7,Qf,Q1,Q6,Cat.cells,Mnd.cells,XAlgebra.cells,XAlgebras.cells]
   repeat with_reducible refine sdQ ?_
   refine hK _ ?_;clear hK K
   refine tn ?_
   refine Qd (st':=⟨[(4,.val (.pointer none)),(15,.val (.bool (!false)))],[(0,.mix 5 [[.val (.int .i64 0),.val (.slice none 0 0),.val (.slice none 0 0),.val (.slice none 0 0),.val (.slice none 0 0)]])],1⟩) (Wk.rP _ [(0,0)] hP (by rfl) (by simp [hhOk,back,Cat.cells,Mnd.cells,XAlgebra.cells,XAlgebras.cells,UA,U1,IA,I1,LA,L1,BA,B1,EA,E1,E2,eB,eI,eL,Qe _ Q1 _ (fun _=>rfl),Qe _ Q6 _ (fun _=>rfl)])) ?_
   refine Qi rfl (fun g=>?_) fun g=>?_
   ·have g157:¬ (false=true):=gQ
    clear g
    replace h:=if_l g157 h
    refine Q8 ?_
    refine Qw [] mo (by rw [hN];decide) fun K hK=>?_
    simp [-Q0,-Q9,-Q3,-Qa,-Q4,eL,eI,Q2,Q7,Qf,Q1,Q6,Cat.cells,Mnd.cells,XAlgebra.cells,XAlgebras.cells]
    repeat with_reducible refine sdQ ?_
    refine hK _ ?_;clear hK K
    refine tn ?_
    refine Qd (st':=⟨[(2,.val (.pointer none)),(3,.val (.int .i64 3))],[(0,.mix 5 [[.val (.int .i64 0),.val (.slice none 0 0),.val (.slice none 0 0),.val (.slice none 0 0),.val (.slice none 0 0)]])],1⟩) (Wk.rP _ [(0,0)] hP (by rfl) (by simp [hhOk,back,Cat.cells,Mnd.cells,XAlgebra.cells,XAlgebras.cells,UA,U1,IA,I1,LA,L1,BA,B1,EA,E1,E2,eB,eI,eL,Qe _ Q1 _ (fun _=>rfl),Qe _ Q6 _ (fun _=>rfl)])) ?_
    refine Qn ?_
    refine tr ?_
    cases h
    try dsimp only
    first|refine iw_r (st':=⟨[(2,.val (.pointer none)),(3,.val (.int .i64 3))],[(0,.mix 5 [[.val (.int .i64 0),.val (.slice none 0 0),.val (.slice none 0 0),.val (.slice none 0 0),.val (.slice none 0 0)]])],1⟩) ?_ ?_|refine iw_n (st':=⟨[(2,.val (.pointer none)),(3,.val (.int .i64 3))],[(0,.mix 5 [[.val (.int .i64 0),.val (.slice none 0 0),.val (.slice none 0 0),.val (.slice none 0 0),.val (.slice none 0 0)]])],1⟩) ?_ ?_
    ·exact Wk.rP _ [(0,0)] hP (by rfl) (by simp [hhOk,back,Cat.cells,Mnd.cells,XAlgebra.cells,XAlgebras.cells,UA,U1,IA,I1,LA,L1,BA,B1,EA,E1,E2,eB,eI,eL,Qe _ Q1 _ (fun _=>rfl),Qe _ Q6 _ (fun _=>rfl)])
    exact ⟨by simp [Q1e],by simp,by simp [Cat.cells,Mnd.cells,XAlgebra.cells,XAlgebras.cells]⟩
   have g157:¬ (¬ (false=true)):=gQ
   clear g
   replace h:=if_r g157 h
   refine Qj ?_
   refine tn ?_
   refine Q8 ?_
   refine Qw [] mo (by rw [hN];decide) fun K hK=>?_
   simp [-Q0,-Q9,-Q3,-Qa,-Q4,eL,eI,Q2,Q7,Qf,Q1,Q6,Cat.cells,Mnd.cells,XAlgebra.cells,XAlgebras.cells]
   repeat with_reducible refine sdQ ?_
   refine hK _ ?_;clear hK K
   refine tn ?_
   refine Qd (st':=⟨[(2,.val (.pointer none)),(3,.val (.int .i64 0))],[(0,.mix 5 [[.val (.int .i64 0),.val (.slice none 0 0),.val (.slice none 0 0),.val (.slice none 0 0),.val (.slice none 0 0)]])],1⟩) (Wk.rP _ [(0,0)] hP (by rfl) (by simp [hhOk,back,Cat.cells,Mnd.cells,XAlgebra.cells,XAlgebras.cells,UA,U1,IA,I1,LA,L1,BA,B1,EA,E1,E2,eB,eI,eL,Qe _ Q1 _ (fun _=>rfl),Qe _ Q6 _ (fun _=>rfl)])) ?_
   refine Qn ?_
   cases h
   try dsimp only
   first|refine iw_r (st':=⟨[(2,.val (.pointer none)),(3,.val (.int .i64 0))],[(0,.mix 5 [[.val (.int .i64 0),.val (.slice none 0 0),.val (.slice none 0 0),.val (.slice none 0 0),.val (.slice none 0 0)]])],1⟩) ?_ ?_|refine iw_n (st':=⟨[(2,.val (.pointer none)),(3,.val (.int .i64 0))],[(0,.mix 5 [[.val (.int .i64 0),.val (.slice none 0 0),.val (.slice none 0 0),.val (.slice none 0 0),.val (.slice none 0 0)]])],1⟩) ?_ ?_
   ·exact Wk.rP _ [(0,0)] hP (by rfl) (by simp [hhOk,back,Cat.cells,Mnd.cells,XAlgebra.cells,XAlgebras.cells,UA,U1,IA,I1,LA,L1,BA,B1,EA,E1,E2,eB,eI,eL,Qe _ Q1 _ (fun _=>rfl),Qe _ Q6 _ (fun _=>rfl)])
   exact ⟨by simp [Q1e],by simp,by simp [Cat.cells,Mnd.cells,XAlgebra.cells,XAlgebras.cells]⟩
  try dsimp only at h
  try dsimp only
  simp [-Q0,-Q9,-Q3,-Qa,-Q4,unk,unA,unE,unT,unC,flat,eL,eI,Q2,Q7,Qf,Q1,Q6,Cat.cells,Mnd.cells,XAlgebra.cells,XAlgebras.cells]
  repeat with_reducible refine sdQ ?_
  refine hK _ ?_;clear hK K
  refine tn ?_
  refine Qd (st':=⟨[(4,.adr 1 0 0),(5,.val (.bool true))],[(0,.mix 5 [[.val (.int .i64 0),.val (.slice none 0 0),.val (.slice none 0 0),.val (.slice none 0 0),.val (.slice none 0 0)]]),(1,.mix 9 [[.rptr (Mnd.cells true m_),.val (.int .i64 v156.1),.own 2 0 v156.2.1.length,.own 3 0 v156.2.2.1.length,.own 4 0 v156.2.2.2.1.length,.own 5 0 v156.2.2.2.2.1.length,.lst true 1 (Es Q1 v156.2.2.2.2.2.1),.own 6 0 v156.2.2.2.2.2.2.1.length,.cmap .str (Msi v156.2.2.2.2.2.2.2)]]),(2,.row 1 (Is v156.2.1)),(3,.row 1 (Is v156.2.2.1)),(4,.row 1 (Is v156.2.2.2.1)),(5,.row 1 (Ls v156.2.2.2.2.1)),(6,.row 1 (Ls v156.2.2.2.2.2.2.1))],7⟩) (Wk.rP _ [(0,0),(1,1),(2,2),(3,3),(4,4),(5,5),(6,6)] hP (by rfl) (by simp [hhOk,back,Cat.cells,Mnd.cells,XAlgebra.cells,XAlgebras.cells,UA,U1,IA,I1,LA,L1,BA,B1,EA,E1,E2,eB,eI,eL,Qe _ Q1 _ (fun _=>rfl),Qe _ Q6 _ (fun _=>rfl)])) ?_
  refine Q8 ?_
  refine Q8 ?_
  refine Qw [] mo (by rw [hN];decide) fun K hK=>?_
  simp [-Q0,-Q9,-Q3,-Qa,-Q4,eL,eI,Q2,Q7,Qf,Q1,Q6,Cat.cells,Mnd.cells,XAlgebra.cells,XAlgebras.cells]
  repeat with_reducible refine sdQ ?_
  refine hK _ ?_;clear hK K
  refine tn ?_
  refine Qd (st':=⟨[(4,.adr 1 0 0),(15,.val (.bool (!true)))],[(0,.mix 5 [[.val (.int .i64 0),.val (.slice none 0 0),.val (.slice none 0 0),.val (.slice none 0 0),.val (.slice none 0 0)]]),(1,.mix 9 [[.rptr (Mnd.cells true m_),.val (.int .i64 v156.1),.own 2 0 v156.2.1.length,.own 3 0 v156.2.2.1.length,.own 4 0 v156.2.2.2.1.length,.own 5 0 v156.2.2.2.2.1.length,.lst true 1 (Es Q1 v156.2.2.2.2.2.1),.own 6 0 v156.2.2.2.2.2.2.1.length,.cmap .str (Msi v156.2.2.2.2.2.2.2)]]),(2,.row 1 (Is v156.2.1)),(3,.row 1 (Is v156.2.2.1)),(4,.row 1 (Is v156.2.2.2.1)),(5,.row 1 (Ls v156.2.2.2.2.1)),(6,.row 1 (Ls v156.2.2.2.2.2.2.1))],7⟩) (Wk.rP _ [(0,0),(1,1),(2,2),(3,3),(4,4),(5,5),(6,6)] hP (by rfl) (by simp [hhOk,back,Cat.cells,Mnd.cells,XAlgebra.cells,XAlgebras.cells,UA,U1,IA,I1,LA,L1,BA,B1,EA,E1,E2,eB,eI,eL,Qe _ Q1 _ (fun _=>rfl),Qe _ Q6 _ (fun _=>rfl)])) ?_
  refine Qi rfl (fun g=>?_) fun g=>?_
  ·have g158:¬ (true=true):=gQ
   clear g
   replace h:=if_l g158 h
   refine Q8 ?_
   refine Qw [] mo (by rw [hN];decide) fun K hK=>?_
   simp [-Q0,-Q9,-Q3,-Qa,-Q4,eL,eI,Q2,Q7,Qf,Q1,Q6,Cat.cells,Mnd.cells,XAlgebra.cells,XAlgebras.cells]
   repeat with_reducible refine sdQ ?_
   refine hK _ ?_;clear hK K
   refine tn ?_
   refine Qd (st':=⟨[(2,.val (.pointer none)),(3,.val (.int .i64 3))],[(0,.mix 5 [[.val (.int .i64 0),.val (.slice none 0 0),.val (.slice none 0 0),.val (.slice none 0 0),.val (.slice none 0 0)]])],1⟩) (Wk.rP _ [(0,0)] hP (by rfl) (by simp [hhOk,back,Cat.cells,Mnd.cells,XAlgebra.cells,XAlgebras.cells,UA,U1,IA,I1,LA,L1,BA,B1,EA,E1,E2,eB,eI,eL,Qe _ Q1 _ (fun _=>rfl),Qe _ Q6 _ (fun _=>rfl)])) ?_
   refine Qn ?_
   refine tr ?_
   cases h
   try dsimp only
   first|refine iw_r (st':=⟨[(2,.val (.pointer none)),(3,.val (.int .i64 3))],[(0,.mix 5 [[.val (.int .i64 0),.val (.slice none 0 0),.val (.slice none 0 0),.val (.slice none 0 0),.val (.slice none 0 0)]])],1⟩) ?_ ?_|refine iw_n (st':=⟨[(2,.val (.pointer none)),(3,.val (.int .i64 3))],[(0,.mix 5 [[.val (.int .i64 0),.val (.slice none 0 0),.val (.slice none 0 0),.val (.slice none 0 0),.val (.slice none 0 0)]])],1⟩) ?_ ?_
   ·exact Wk.rP _ [(0,0)] hP (by rfl) (by simp [hhOk,back,Cat.cells,Mnd.cells,XAlgebra.cells,XAlgebras.cells,UA,U1,IA,I1,LA,L1,BA,B1,EA,E1,E2,eB,eI,eL,Qe _ Q1 _ (fun _=>rfl),Qe _ Q6 _ (fun _=>rfl)])
   exact ⟨by simp [Q1e],by simp,by simp [Cat.cells,Mnd.cells,XAlgebra.cells,XAlgebras.cells]⟩
  have g158:¬ (¬ (true=true)):=gQ
  clear g
  replace h:=if_r g158 h
  refine Qj ?_
  refine tn ?_
  refine Q8 ?_
  refine Qw [] mo (by rw [hN];decide) fun K hK=>?_
  simp [-Q0,-Q9,-Q3,-Qa,-Q4,eL,eI,Q2,Q7,Qf,Q1,Q6,Cat.cells,Mnd.cells,XAlgebra.cells,XAlgebras.cells]
  repeat with_reducible refine sdQ ?_
  refine hK _ ?_;clear hK K
  refine tn ?_
  refine Qd (st':=⟨[(2,.adr 1 0 0),(3,.val (.int .i64 0))],[(0,.mix 5 [[.val (.int .i64 0),.val (.slice none 0 0),.val (.slice none 0 0),.val (.slice none 0 0),.val (.slice none 0 0)]]),(1,.mix 9 [[.rptr (Mnd.cells true m_),.val (.int .i64 v156.1),.own 2 0 v156.2.1.length,.own 3 0 v156.2.2.1.length,.own 4 0 v156.2.2.2.1.length,.own 5 0 v156.2.2.2.2.1.length,.lst true 1 (Es Q1 v156.2.2.2.2.2.1),.own 6 0 v156.2.2.2.2.2.2.1.length,.cmap .str (Msi v156.2.2.2.2.2.2.2)]]),(2,.row 1 (Is v156.2.1)),(3,.row 1 (Is v156.2.2.1)),(4,.row 1 (Is v156.2.2.2.1)),(5,.row 1 (Ls v156.2.2.2.2.1)),(6,.row 1 (Ls v156.2.2.2.2.2.2.1))],7⟩) (Wk.rP _ [(0,0),(1,1),(2,2),(3,3),(4,4),(5,5),(6,6)] hP (by rfl) (by simp [hhOk,back,Cat.cells,Mnd.cells,XAlgebra.cells,XAlgebras.cells,UA,U1,IA,I1,LA,L1,BA,B1,EA,E1,E2,eB,eI,eL,Qe _ Q1 _ (fun _=>rfl),Qe _ Q6 _ (fun _=>rfl)])) ?_
  refine Qn ?_
  cases h
  try dsimp only
  first|refine iw_r (st':=⟨[(2,.adr 1 0 0),(3,.val (.int .i64 0))],[(0,.mix 5 [[.val (.int .i64 0),.val (.slice none 0 0),.val (.slice none 0 0),.val (.slice none 0 0),.val (.slice none 0 0)]]),(1,.mix 9 [[.rptr (Mnd.cells true m_),.val (.int .i64 v156.1),.own 2 0 v156.2.1.length,.own 3 0 v156.2.2.1.length,.own 4 0 v156.2.2.2.1.length,.own 5 0 v156.2.2.2.2.1.length,.lst true 1 (Es Q1 v156.2.2.2.2.2.1),.own 6 0 v156.2.2.2.2.2.2.1.length,.cmap .str (Msi v156.2.2.2.2.2.2.2)]]),(2,.row 1 (Is v156.2.1)),(3,.row 1 (Is v156.2.2.1)),(4,.row 1 (Is v156.2.2.2.1)),(5,.row 1 (Ls v156.2.2.2.2.1)),(6,.row 1 (Ls v156.2.2.2.2.2.2.1))],7⟩) ?_ ?_|refine iw_n (st':=⟨[(2,.adr 1 0 0),(3,.val (.int .i64 0))],[(0,.mix 5 [[.val (.int .i64 0),.val (.slice none 0 0),.val (.slice none 0 0),.val (.slice none 0 0),.val (.slice none 0 0)]]),(1,.mix 9 [[.rptr (Mnd.cells true m_),.val (.int .i64 v156.1),.own 2 0 v156.2.1.length,.own 3 0 v156.2.2.1.length,.own 4 0 v156.2.2.2.1.length,.own 5 0 v156.2.2.2.2.1.length,.lst true 1 (Es Q1 v156.2.2.2.2.2.1),.own 6 0 v156.2.2.2.2.2.2.1.length,.cmap .str (Msi v156.2.2.2.2.2.2.2)]]),(2,.row 1 (Is v156.2.1)),(3,.row 1 (Is v156.2.2.1)),(4,.row 1 (Is v156.2.2.2.1)),(5,.row 1 (Ls v156.2.2.2.2.1)),(6,.row 1 (Ls v156.2.2.2.2.2.2.1))],7⟩) ?_ ?_
  ·exact Wk.rP _ [(0,0),(1,1),(2,2),(3,3),(4,4),(5,5),(6,6)] hP (by rfl) (by simp [hhOk,back,Cat.cells,Mnd.cells,XAlgebra.cells,XAlgebras.cells,UA,U1,IA,I1,LA,L1,BA,B1,EA,E1,E2,eB,eI,eL,Qe _ Q1 _ (fun _=>rfl),Qe _ Q6 _ (fun _=>rfl)])
  exact ⟨by simp [Q1e],by simp,by simp [Cat.cells,Mnd.cells,XAlgebra.cells,XAlgebras.cells]⟩
 clear hv159
 rcases v159 with v159|v159
 ·try dsimp only at h
  try dsimp only
  simp [-Q0,-Q9,-Q3,-Qa,-Q4,unk,unA,unE,unT,unC,flat,eL,eI,Q2,Q7,Qf,Q1,Q6,Cat.cells,Mnd.cells,XAlgebra.cells,XAlgebras.cells]
  repeat with_reducible refine sdQ ?_
  refine hK _ ?_;clear hK K
  refine tn ?_
  refine Qd (st':=⟨[(2,.adr 0 0 0),(4,.val (.pointer none)),(5,.val (.int .i64 v159))],[(0,.mix 5 [[.val (.int .i64 0),.val (.slice none 0 0),.val (.slice none 0 0),.val (.slice none 0 0),.val (.slice none 0 0)]])],1⟩) (Wk.r1 [(0,0)] (by simp [hP,hhOk,back,Cat.cells,Mnd.cells,XAlgebra.cells,XAlgebras.cells,UA,U1,IA,I1,LA,L1,BA,B1,EA,E1,E2,eB,eI,eL,Qe _ Q1 _ (fun _=>rfl),Qe _ Q6 _ (fun _=>rfl)])) ?_
  refine Q8 ?_
  refine Q8 ?_
  refine runQ hN fun K hK=>?_
  simp [-Q0,-Q9,-Q3,-Qa,-Q4,eL,eI,Q2,Q7,Qf,Q1,Q6,Cat.cells,Mnd.cells,XAlgebra.cells,XAlgebras.cells]
  repeat with_reducible refine sdQ ?_
  refine hK _ ?_;clear hK K
  refine tn ?_
  refine Qd (st':=⟨[(2,.adr 0 0 0),(4,.val (.pointer none)),(5,.val (.int .i64 v159)),(11,.val (.bool (v159 != 0)))],[(0,.mix 5 [[.val (.int .i64 0),.val (.slice none 0 0),.val (.slice none 0 0),.val (.slice none 0 0),.val (.slice none 0 0)]])],1⟩) (Wk.r1 [(0,0)] (by simp [hP,hhOk,back,Cat.cells,Mnd.cells,XAlgebra.cells,XAlgebras.cells,UA,U1,IA,I1,LA,L1,BA,B1,EA,E1,E2,eB,eI,eL,Qe _ Q1 _ (fun _=>rfl),Qe _ Q6 _ (fun _=>rfl)])) ?_
  refine Qi rfl (fun g=>?_) fun g=>?_
  ·have g160:¬ (v159=0):=gQ
   clear g
   replace h:=if_l g160 h
   refine Q8 ?_
   refine runQ hN fun K hK=>?_
   simp [-Q0,-Q9,-Q3,-Qa,-Q4,eL,eI,Q2,Q7,Qf,Q1,Q6,Cat.cells,Mnd.cells,XAlgebra.cells,XAlgebras.cells]
   repeat with_reducible refine sdQ ?_
   refine hK _ ?_;clear hK K
   refine tn ?_
   refine Qd (st':=⟨[(2,.adr 0 0 0),(3,.val (.int .i64 v159))],[(0,.mix 5 [[.val (.int .i64 0),.val (.slice none 0 0),.val (.slice none 0 0),.val (.slice none 0 0),.val (.slice none 0 0)]])],1⟩) (Wk.r1 [(0,0)] (by simp [hP,hhOk,back,Cat.cells,Mnd.cells,XAlgebra.cells,XAlgebras.cells,UA,U1,IA,I1,LA,L1,BA,B1,EA,E1,E2,eB,eI,eL,Qe _ Q1 _ (fun _=>rfl),Qe _ Q6 _ (fun _=>rfl)])) ?_
   refine Qn ?_
   refine tr ?_
   have hr:=Option.some.inj h
   rw [← hr]
   refine ⟨_,(.cell Q76 rfl rfl rfl (by simp) (by simp) (.tmp .nil)),?_⟩
   refine ⟨(.agg rfl (.one rfl rfl .nil)),[.val (.int .i64 0),.val (.slice none 0 0),.val (.slice none 0 0),.val (.slice none 0 0),.val (.slice none 0 0),.val (.int .i64 v159)],[],by simp [Cat.cells,Mnd.cells,XAlgebra.cells,XAlgebras.cells,UA,U1,IA,I1,LA,L1,BA,B1,EA,E1,E2,eB,eI,eL,Qe _ Q1 _ (fun _=>rfl),Qe _ Q6 _ (fun _=>rfl)],by simp,(.cons .refl (.cons .nil (.cons .nil (.cons .nil (.cons .nil (.cons .refl .nil))))))⟩
  have g160:¬ (¬ (v159=0)):=gQ
  clear g
  replace h:=if_r g160 h
  refine Qj ?_
  refine tn ?_
  refine Q8 ?_
  refine runQ hN fun K hK=>?_
  exact (Qc h).1.elim
 try dsimp only at h
 try dsimp only
 simp [-Q0,-Q9,-Q3,-Qa,-Q4,unk,unA,unE,unT,unC,flat,eL,eI,Q2,Q7,Qf,Q1,Q6,Cat.cells,Mnd.cells,XAlgebra.cells,XAlgebras.cells]
 repeat with_reducible refine sdQ ?_
 refine hK _ ?_;clear hK K
 refine tn ?_
 refine Qd (st':=⟨[(2,.adr 0 0 0),(4,.adr 1 0 0),(5,.val (.int .i64 0))],[(0,.mix 5 [[.val (.int .i64 0),.val (.slice none 0 0),.val (.slice none 0 0),.val (.slice none 0 0),.val (.slice none 0 0)]]),(1,.mix 9 [[.rptr (Mnd.cells true m_),.val (.int .i64 v159.1),.own 2 0 v159.2.1.length,.own 3 0 v159.2.2.1.length,.own 4 0 v159.2.2.2.1.length,.own 5 0 v159.2.2.2.2.1.length,.lst true 1 (Es Q1 v159.2.2.2.2.2.1),.own 6 0 v159.2.2.2.2.2.2.1.length,.cmap .str (Msi v159.2.2.2.2.2.2.2)]]),(2,.row 1 (Is v159.2.1)),(3,.row 1 (Is v159.2.2.1)),(4,.row 1 (Is v159.2.2.2.1)),(5,.row 1 (Ls v159.2.2.2.2.1)),(6,.row 1 (Ls v159.2.2.2.2.2.2.1))],7⟩) (Wk.r1 [(0,0),(1,1),(2,2),(3,3),(4,4),(5,5),(6,6)] (by simp [hP,hhOk,back,Cat.cells,Mnd.cells,XAlgebra.cells,XAlgebras.cells,UA,U1,IA,I1,LA,L1,BA,B1,EA,E1,E2,eB,eI,eL,Qe _ Q1 _ (fun _=>rfl),Qe _ Q6 _ (fun _=>rfl)])) ?_
 refine Q8 ?_
 refine Q8 ?_
 refine runQ hN fun K hK=>?_
 simp [-Q0,-Q9,-Q3,-Qa,-Q4,eL,eI,Q2,Q7,Qf,Q1,Q6,Cat.cells,Mnd.cells,XAlgebra.cells,XAlgebras.cells]
 repeat with_reducible refine sdQ ?_
 refine hK _ ?_;clear hK K
 refine tn ?_
 refine Qd (st':=⟨[(2,.adr 0 0 0),(4,.adr 1 0 0),(5,.val (.int .i64 0)),(11,.val (.bool (0 != 0)))],[(0,.mix 5 [[.val (.int .i64 0),.val (.slice none 0 0),.val (.slice none 0 0),.val (.slice none 0 0),.val (.slice none 0 0)]]),(1,.mix 9 [[.rptr (Mnd.cells true m_),.val (.int .i64 v159.1),.own 2 0 v159.2.1.length,.own 3 0 v159.2.2.1.length,.own 4 0 v159.2.2.2.1.length,.own 5 0 v159.2.2.2.2.1.length,.lst true 1 (Es Q1 v159.2.2.2.2.2.1),.own 6 0 v159.2.2.2.2.2.2.1.length,.cmap .str (Msi v159.2.2.2.2.2.2.2)]]),(2,.row 1 (Is v159.2.1)),(3,.row 1 (Is v159.2.2.1)),(4,.row 1 (Is v159.2.2.2.1)),(5,.row 1 (Ls v159.2.2.2.2.1)),(6,.row 1 (Ls v159.2.2.2.2.2.2.1))],7⟩) (Wk.r1 [(0,0),(1,1),(2,2),(3,3),(4,4),(5,5),(6,6)] (by simp [hP,hhOk,back,Cat.cells,Mnd.cells,XAlgebra.cells,XAlgebras.cells,UA,U1,IA,I1,LA,L1,BA,B1,EA,E1,E2,eB,eI,eL,Qe _ Q1 _ (fun _=>rfl),Qe _ Q6 _ (fun _=>rfl)])) ?_
 refine Qi rfl (fun g=>?_) fun g=>?_
 ·have g161:¬ (0=0):=gQ
  clear g
  replace h:=if_l g161 h
  refine Q8 ?_
  refine runQ hN fun K hK=>?_
  simp [-Q0,-Q9,-Q3,-Qa,-Q4,eL,eI,Q2,Q7,Qf,Q1,Q6,Cat.cells,Mnd.cells,XAlgebra.cells,XAlgebras.cells]
  repeat with_reducible refine sdQ ?_
  refine hK _ ?_;clear hK K
  refine tn ?_
  refine Qd (st':=⟨[(2,.adr 0 0 0),(3,.val (.int .i64 0))],[(0,.mix 5 [[.val (.int .i64 0),.val (.slice none 0 0),.val (.slice none 0 0),.val (.slice none 0 0),.val (.slice none 0 0)]])],1⟩) (Wk.r1 [(0,0)] (by simp [hP,hhOk,back,Cat.cells,Mnd.cells,XAlgebra.cells,XAlgebras.cells,UA,U1,IA,I1,LA,L1,BA,B1,EA,E1,E2,eB,eI,eL,Qe _ Q1 _ (fun _=>rfl),Qe _ Q6 _ (fun _=>rfl)])) ?_
  refine Qn ?_
  refine tr ?_
  have hr:=Option.some.inj h
  rw [← hr]
  refine ⟨_,(.cell Q76 rfl rfl rfl (by simp) (by simp) (.tmp .nil)),?_⟩
  refine ⟨(.agg rfl (.one rfl rfl .nil)),[.val (.int .i64 0),.val (.slice none 0 0),.val (.slice none 0 0),.val (.slice none 0 0),.val (.slice none 0 0),.val (.int .i64 0)],[],by simp [Cat.cells,Mnd.cells,XAlgebra.cells,XAlgebras.cells,UA,U1,IA,I1,LA,L1,BA,B1,EA,E1,E2,eB,eI,eL,Qe _ Q1 _ (fun _=>rfl),Qe _ Q6 _ (fun _=>rfl)],by simp,(.cons .refl (.cons .nil (.cons .nil (.cons .nil (.cons .nil (.cons .refl .nil))))))⟩
 have g161:¬ (¬ (0=0)):=gQ
 clear g
 replace h:=if_r g161 h
 refine Qj ?_
 refine tn ?_
 refine Q8 ?_
 refine runQ hN fun K hK=>?_
 simp [-Q0,-Q9,-Q3,-Qa,-Q4,eL,eI,Q2,Q7,Qf,Q1,Q6,Cat.cells,Mnd.cells,XAlgebra.cells,XAlgebras.cells]
 repeat with_reducible refine sdQ ?_
 refine hK _ ?_;clear hK K
 refine tn ?_
 refine Qd (st':=⟨[(2,.adr 0 0 0),(3,.val (.int .i64 0))],[(0,.mix 5 [[.val (.int .i64 v159.1),.own 1 0 v159.2.1.length,.own 2 0 v159.2.2.1.length,.own 3 0 v159.2.2.2.1.length,.own 4 0 v159.2.2.2.2.1.length]]),(1,.row 1 (Is v159.2.1)),(2,.row 1 (Is v159.2.2.1)),(3,.row 1 (Is v159.2.2.2.1)),(4,.row 1 (Ls v159.2.2.2.2.1))],5⟩) (Wk.r1 [(0,0),(2,1),(3,2),(4,3),(5,4)] (by simp [hP,hhOk,back,Cat.cells,Mnd.cells,XAlgebra.cells,XAlgebras.cells,UA,U1,IA,I1,LA,L1,BA,B1,EA,E1,E2,eB,eI,eL,Qe _ Q1 _ (fun _=>rfl),Qe _ Q6 _ (fun _=>rfl)])) ?_
 refine Qn ?_
 have hr:=Option.some.inj h
 rw [← hr]
 refine ⟨_,(.cell Q76 rfl rfl rfl (by simp) (by simp) (.tmp .nil)),?_⟩
 refine ⟨(.agg rfl (.one rfl rfl .nil)),[.val (.int .i64 v159.1),.lst true 1 (Is v159.2.1),.lst true 1 (Is v159.2.2.1),.lst true 1 (Is v159.2.2.2.1),.lst true 1 (Ls v159.2.2.2.2.1),.val (.int .i64 0)],[1,2,3,4],by simp [Cat.cells,Mnd.cells,XAlgebra.cells,XAlgebras.cells,UA,U1,IA,I1,LA,L1,BA,B1,EA,E1,E2,eB,eI,eL,Qe _ Q1 _ (fun _=>rfl),Qe _ Q6 _ (fun _=>rfl)],by simp,(UpL.refl _)⟩
end Go.Vc.T
namespace Go.Vc.T
open Go Go.Vc Go.Proofs
noncomputable def Q23 (m_:Mnd):Option (Cat × List (List Int) × List (List Int) × Int) :=
 (Q3v m_).bind fun v1 =>
 if ¬ (v1=true) then
  some ((⟨0,[],[],[],[]⟩:Cat),[],[],1)
 else
  (Q2c m_).bind fun v3 =>
  (Q20 v3.1).bind fun v4 =>
  if ¬ (v4=true) then
   some ((⟨0,[],[],[],[]⟩:Cat),[],[],3)
  else
   some (v3.1,v3.2.1,v3.2.2,0)
theorem Q7X (m_:Mnd) (r:Cat × List (List Int) × List (List Int) × Int) (h:Q23 m_=some r):Contract Tryz.prog 60 [.agg (m_.cells true)] (.tup [.agg (r.1.cells true),.lst true 1 (Ls r.2.1),.lst true 1 (Ls r.2.2.1),.val (.int .i64 r.2.2.2)]):=by
 refine Qk (rvs:=[.cell 2 31,.tmp 3,.tmp 4,.tmp 5]) (rs:=[.agg (r.1.cells true),.lst true 1 (Ls r.2.1),.lst true 1 (Ls r.2.2.1),.val (.int .i64 r.2.2.2)]) Tryz.func60 rfl rfl rfl rfl (by simp [Tryz.f60]) fun F hN hP=>?_
 unfold Q23 at h
 refine Q8 ?_
 refine runQ hN fun K hK=>?_
 simp [-Q0,-Q9,-Q3,-Qa,-Q4,eL,eI,Q2,Q7,Qf,Cat.cells,Mnd.cells]
 repeat with_reducible refine sdQ ?_
 refine hK _ ?_;clear hK K
 refine tn ?_
 refine Qd (st':=⟨[(1,.adr 0 0 0),(2,.adr 1 0 0)],[(0,.mix 14 [(Mnd.cells true m_)]),(1,.mix 5 [[.val (.int .i64 0),.val (.slice none 0 0),.val (.slice none 0 0),.val (.slice none 0 0),.val (.slice none 0 0)]])],2⟩) (Wk.r1 [(0,0),(1,1)] (by simp [hP,hhOk,back,Cat.cells,Mnd.cells,UA,U1,IA,I1,LA,L1,BA,B1,EA,E1,E2,eB,eI,eL])) ?_
 refine Q8 ?_
 refine Q8 ?_
 refine runQ hN fun K hK=>?_
 simp [-Q0,-Q9,-Q3,-Qa,-Q4,eL,eI,Q2,Q7,Qf,Cat.cells,Mnd.cells]
 repeat with_reducible refine sdQ ?_
 replace h:=bind_some h
 obtain ⟨v1,hv1,h⟩:=h
 refine Q5 (w_s_l16Is _ v1 hv1) (.cons (.aggL (.cons .val (.cons .lst (.cons .lst (.cons .lst (.cons .lst (.cons .val (.cons .lst (.cons .lst (.cons .lst (.cons .lst (.cons .lst (.cons .lst (.cons .lst (.cons .lst .nil))))))))))))))) .nil) ?_
 simp [-Q0,-Q9,-Q3,-Qa,-Q4,unk,unA,unE,unT,unC,flat,eL,eI,Q2,Q7,Qf,Cat.cells,Mnd.cells]
 repeat with_reducible refine sdQ ?_
 refine hK _ ?_;clear hK K
 refine tn ?_
 refine Qd (st':=⟨[(1,.adr 0 0 0),(2,.adr 1 0 0),(11,.val (.bool (!v1)))],[(0,.mix 14 [(Mnd.cells true m_)]),(1,.mix 5 [[.val (.int .i64 0),.val (.slice none 0 0),.val (.slice none 0 0),.val (.slice none 0 0),.val (.slice none 0 0)]])],2⟩) (Wk.r1 [(0,0),(1,1)] (by simp [hP,hhOk,back,Cat.cells,Mnd.cells,UA,U1,IA,I1,LA,L1,BA,B1,EA,E1,E2,eB,eI,eL])) ?_
 refine Qi rfl (fun g=>?_) fun g=>?_
 ·have g2:¬ (v1=true):=gQ
  clear g
  replace h:=if_l g2 h
  refine Q8 ?_
  refine runQ hN fun K hK=>?_
  simp [-Q0,-Q9,-Q3,-Qa,-Q4,eL,eI,Q2,Q7,Qf,Cat.cells,Mnd.cells]
  repeat with_reducible refine sdQ ?_
  refine hK _ ?_;clear hK K
  refine tn ?_
  refine Qd (st':=⟨[(2,.adr 0 0 0),(3,.val (.slice none 0 0)),(4,.val (.slice none 0 0)),(5,.val (.int .i64 1))],[(0,.mix 5 [[.val (.int .i64 0),.val (.slice none 0 0),.val (.slice none 0 0),.val (.slice none 0 0),.val (.slice none 0 0)]])],1⟩) (Wk.r1 [(1,0)] (by simp [hP,hhOk,back,Cat.cells,Mnd.cells,UA,U1,IA,I1,LA,L1,BA,B1,EA,E1,E2,eB,eI,eL])) ?_
  refine Qn ?_
  refine tr ?_
  have hr:=Option.some.inj h
  rw [← hr]
  refine ⟨_,(.cell Q76 rfl rfl rfl (by simp) (by simp) (.tmp (.tmp (.tmp .nil)))),?_⟩
  refine ⟨(.agg rfl (.one rfl rfl (.one rfl rfl (.one rfl rfl .nil)))),[.val (.int .i64 0),.val (.slice none 0 0),.val (.slice none 0 0),.val (.slice none 0 0),.val (.slice none 0 0),.val (.slice none 0 0),.val (.slice none 0 0),.val (.int .i64 1)],[],by simp [Cat.cells,Mnd.cells,UA,U1,IA,I1,LA,L1,BA,B1,EA,E1,E2,eB,eI,eL],by simp,(.cons .refl (.cons .nil (.cons .nil (.cons .nil (.cons .nil (.cons .nil (.cons .nil (.cons .refl .nil))))))))⟩
 have g2:¬ (¬ (v1=true)):=gQ
 clear g
 replace h:=if_r g2 h
 refine Qj ?_
 refine tn ?_
 refine Q8 ?_
 refine runQ hN fun K hK=>?_
 simp [-Q0,-Q9,-Q3,-Qa,-Q4,eL,eI,Q2,Q7,Qf,Cat.cells,Mnd.cells]
 repeat with_reducible refine sdQ ?_
 replace h:=bind_some h
 obtain ⟨v3,hv3,h⟩:=h
 refine Q5 (Q7e _ v3 hv3) (.cons (.aggL (.cons .val (.cons .lst (.cons .lst (.cons .lst (.cons .lst (.cons .val (.cons .lst (.cons .lst (.cons .lst (.cons .lst (.cons .lst (.cons .lst (.cons .lst (.cons .lst .nil))))))))))))))) .nil) ?_
 simp [-Q0,-Q9,-Q3,-Qa,-Q4,unk,unA,unE,unT,unC,flat,eL,eI,Q2,Q7,Qf,Cat.cells,Mnd.cells]
 repeat with_reducible refine sdQ ?_
 refine hK _ ?_;clear hK K
 refine tn ?_
 refine Qd (st':=⟨[(2,.adr 0 0 0),(6,.adr 1 0 0),(7,.own 6 0 v3.2.1.length),(8,.own 7 0 v3.2.2.length)],[(0,.mix 5 [[.val (.int .i64 0),.val (.slice none 0 0),.val (.slice none 0 0),.val (.slice none 0 0),.val (.slice none 0 0)]]),(1,.mix 5 [[.val (.int .i64 v3.1.n),.own 2 0 v3.1.fr.length,.own 3 0 v3.1.to.length,.own 4 0 v3.1.id.length,.own 5 0 v3.1.cs.length]]),(2,.row 1 (Is v3.1.fr)),(3,.row 1 (Is v3.1.to)),(4,.row 1 (Is v3.1.id)),(5,.row 1 (Ls v3.1.cs)),(6,.row 1 (Ls v3.2.1)),(7,.row 1 (Ls v3.2.2))],8⟩) (Wk.r1 [(1,0),(9,1),(3,2),(4,3),(5,4),(6,5),(7,6),(8,7)] (by simp [hP,hhOk,back,Cat.cells,Mnd.cells,UA,U1,IA,I1,LA,L1,BA,B1,EA,E1,E2,eB,eI,eL])) ?_
 refine Q8 ?_
 refine Q8 ?_
 refine runQ hN fun K hK=>?_
 simp [-Q0,-Q9,-Q3,-Qa,-Q4,eL,eI,Q2,Q7,Qf,Cat.cells,Mnd.cells]
 repeat with_reducible refine sdQ ?_
 replace h:=bind_some h
 obtain ⟨v4,hv4,h⟩:=h
 refine Q5 (Q5s _ v4 hv4) (.cons (.aggL (.cons .val (.cons (.whole (by simp) (by simp) (by simp)) (.cons (.whole (by simp) (by simp) (by simp)) (.cons (.whole (by simp) (by simp) (by simp)) (.cons (.whole (by simp) (by simp) (by simp)) .nil)))))) .nil) ?_
 simp [-Q0,-Q9,-Q3,-Qa,-Q4,unk,unA,unE,unT,unC,flat,eL,eI,Q2,Q7,Qf,Cat.cells,Mnd.cells]
 repeat with_reducible refine sdQ ?_
 refine hK _ ?_;clear hK K
 refine tn ?_
 refine Qd (st':=⟨[(2,.adr 0 0 0),(6,.adr 1 0 0),(7,.own 6 0 v3.2.1.length),(8,.own 7 0 v3.2.2.length),(21,.val (.bool (!v4)))],[(0,.mix 5 [[.val (.int .i64 0),.val (.slice none 0 0),.val (.slice none 0 0),.val (.slice none 0 0),.val (.slice none 0 0)]]),(1,.mix 5 [[.val (.int .i64 v3.1.n),.own 2 0 v3.1.fr.length,.own 3 0 v3.1.to.length,.own 4 0 v3.1.id.length,.own 5 0 v3.1.cs.length]]),(2,.row 1 (Is v3.1.fr)),(3,.row 1 (Is v3.1.to)),(4,.row 1 (Is v3.1.id)),(5,.row 1 (Ls v3.1.cs)),(6,.row 1 (Ls v3.2.1)),(7,.row 1 (Ls v3.2.2))],8⟩) (Wk.r1 [(0,0),(1,1),(2,2),(3,3),(4,4),(5,5),(6,6),(7,7)] (by simp [hP,hhOk,back,Cat.cells,Mnd.cells,UA,U1,IA,I1,LA,L1,BA,B1,EA,E1,E2,eB,eI,eL])) ?_
 refine Qi rfl (fun g=>?_) fun g=>?_
 ·have g5:¬ (v4=true):=gQ
  clear g
  replace h:=if_l g5 h
  refine Q8 ?_
  refine runQ hN fun K hK=>?_
  simp [-Q0,-Q9,-Q3,-Qa,-Q4,eL,eI,Q2,Q7,Qf,Cat.cells,Mnd.cells]
  repeat with_reducible refine sdQ ?_
  refine hK _ ?_;clear hK K
  refine tn ?_
  refine Qd (st':=⟨[(2,.adr 0 0 0),(3,.val (.slice none 0 0)),(4,.val (.slice none 0 0)),(5,.val (.int .i64 3))],[(0,.mix 5 [[.val (.int .i64 0),.val (.slice none 0 0),.val (.slice none 0 0),.val (.slice none 0 0),.val (.slice none 0 0)]])],1⟩) (Wk.r1 [(0,0)] (by simp [hP,hhOk,back,Cat.cells,Mnd.cells,UA,U1,IA,I1,LA,L1,BA,B1,EA,E1,E2,eB,eI,eL])) ?_
  refine Qn ?_
  refine tr ?_
  have hr:=Option.some.inj h
  rw [← hr]
  refine ⟨_,(.cell Q76 rfl rfl rfl (by simp) (by simp) (.tmp (.tmp (.tmp .nil)))),?_⟩
  refine ⟨(.agg rfl (.one rfl rfl (.one rfl rfl (.one rfl rfl .nil)))),[.val (.int .i64 0),.val (.slice none 0 0),.val (.slice none 0 0),.val (.slice none 0 0),.val (.slice none 0 0),.val (.slice none 0 0),.val (.slice none 0 0),.val (.int .i64 3)],[],by simp [Cat.cells,Mnd.cells,UA,U1,IA,I1,LA,L1,BA,B1,EA,E1,E2,eB,eI,eL],by simp,(.cons .refl (.cons .nil (.cons .nil (.cons .nil (.cons .nil (.cons .nil (.cons .nil (.cons .refl .nil))))))))⟩
 have g5:¬ (¬ (v4=true)):=gQ
 clear g
 replace h:=if_r g5 h
 refine Qj ?_
 refine tn ?_
 refine Q8 ?_
 refine runQ hN fun K hK=>?_
 simp [-Q0,-Q9,-Q3,-Qa,-Q4,eL,eI,Q2,Q7,Qf,Cat.cells,Mnd.cells]
 repeat with_reducible refine sdQ ?_
 refine hK _ ?_;clear hK K
 refine tn ?_
 refine Qd (st':=⟨[(2,.adr 0 0 0),(3,.own 5 0 v3.2.1.length),(4,.own 6 0 v3.2.2.length),(5,.val (.int .i64 0))],[(0,.mix 5 [[.val (.int .i64 v3.1.n),.own 1 0 v3.1.fr.length,.own 2 0 v3.1.to.length,.own 3 0 v3.1.id.length,.own 4 0 v3.1.cs.length]]),(1,.row 1 (Is v3.1.fr)),(2,.row 1 (Is v3.1.to)),(3,.row 1 (Is v3.1.id)),(4,.row 1 (Ls v3.1.cs)),(5,.row 1 (Ls v3.2.1)),(6,.row 1 (Ls v3.2.2))],7⟩) (Wk.r1 [(0,0),(2,1),(3,2),(4,3),(5,4),(6,5),(7,6)] (by simp [hP,hhOk,back,Cat.cells,Mnd.cells,UA,U1,IA,I1,LA,L1,BA,B1,EA,E1,E2,eB,eI,eL])) ?_
 refine Qn ?_
 have hr:=Option.some.inj h
 rw [← hr]
 refine ⟨_,(.cell Q76 rfl rfl rfl (by simp) (by simp) (.tmp (.tmp (.tmp .nil)))),?_⟩
 refine ⟨(.agg rfl (.one rfl rfl (.one rfl rfl (.one rfl rfl .nil)))),[.val (.int .i64 v3.1.n),.lst true 1 (Is v3.1.fr),.lst true 1 (Is v3.1.to),.lst true 1 (Is v3.1.id),.lst true 1 (Ls v3.1.cs),.lst true 1 (Ls v3.2.1),.lst true 1 (Ls v3.2.2),.val (.int .i64 0)],[1,2,3,4,5,6],by simp [Cat.cells,Mnd.cells,UA,U1,IA,I1,LA,L1,BA,B1,EA,E1,E2,eB,eI,eL],by simp,(UpL.refl _)⟩
end Go.Vc.T
namespace Go.Vc.T
open Go Go.Vc Go.Proofs
noncomputable def Q1l (m_:Mnd):Option (Cat × Int) :=
 (Q23 m_).bind fun v1 =>
 some (v1.1,v1.2.2.2)
theorem Q44 (m_:Mnd) (r:Cat × Int) (h:Q1l m_=some r):Contract Tryz.prog 23 [.agg (m_.cells true)] (.tup [.agg (r.1.cells true),.val (.int .i64 r.2)]):=by
 refine Qk (rvs:=[.cell 2 31,.tmp 3]) (rs:=[.agg (r.1.cells true),.val (.int .i64 r.2)]) Tryz.func23 rfl rfl rfl rfl (by simp [Tryz.f23]) fun F hN hP=>?_
 unfold Q1l at h
 refine Q8 ?_
 refine runQ hN fun K hK=>?_
 simp [-Q0,-Q9,-Q3,-Qa,-Q4,eL,eI,Q2,Q7,Qf,Cat.cells,Mnd.cells]
 repeat with_reducible refine sdQ ?_
 refine hK _ ?_;clear hK K
 refine tn ?_
 refine Qd (st':=⟨[(1,.adr 0 0 0),(2,.adr 1 0 0)],[(0,.mix 14 [(Mnd.cells true m_)]),(1,.mix 5 [[.val (.int .i64 0),.val (.slice none 0 0),.val (.slice none 0 0),.val (.slice none 0 0),.val (.slice none 0 0)]])],2⟩) (Wk.r1 [(0,0),(1,1)] (by simp [hP,hhOk,back,Cat.cells,Mnd.cells,UA,U1,IA,I1,LA,L1,BA,B1,EA,E1,E2,eB,eI,eL])) ?_
 refine Q8 ?_
 refine runQ hN fun K hK=>?_
 simp [-Q0,-Q9,-Q3,-Qa,-Q4,eL,eI,Q2,Q7,Qf,Cat.cells,Mnd.cells]
 repeat with_reducible refine sdQ ?_
 replace h:=bind_some h
 obtain ⟨v1,hv1,h⟩:=h
 refine Q5 (Q7X _ v1 hv1) (.cons (.aggL (.cons .val (.cons .lst (.cons .lst (.cons .lst (.cons .lst (.cons .val (.cons .lst (.cons .lst (.cons .lst (.cons .lst (.cons .lst (.cons .lst (.cons .lst (.cons .lst .nil))))))))))))))) .nil) ?_
 simp [-Q0,-Q9,-Q3,-Qa,-Q4,unk,unA,unE,unT,unC,flat,eL,eI,Q2,Q7,Qf,Cat.cells,Mnd.cells]
 repeat with_reducible refine sdQ ?_
 refine hK _ ?_;clear hK K
 refine tn ?_
 refine Qd (st':=⟨[(2,.adr 0 0 0),(4,.adr 1 0 0),(7,.val (.int .i64 v1.2.2.2))],[(0,.mix 5 [[.val (.int .i64 0),.val (.slice none 0 0),.val (.slice none 0 0),.val (.slice none 0 0),.val (.slice none 0 0)]]),(1,.mix 5 [[.val (.int .i64 v1.1.n),.own 2 0 v1.1.fr.length,.own 3 0 v1.1.to.length,.own 4 0 v1.1.id.length,.own 5 0 v1.1.cs.length]]),(2,.row 1 (Is v1.1.fr)),(3,.row 1 (Is v1.1.to)),(4,.row 1 (Is v1.1.id)),(5,.row 1 (Ls v1.1.cs))],6⟩) (Wk.r1 [(1,0),(10,1),(3,2),(4,3),(5,4),(6,5)] (by simp [hP,hhOk,back,Cat.cells,Mnd.cells,UA,U1,IA,I1,LA,L1,BA,B1,EA,E1,E2,eB,eI,eL])) ?_
 refine Q8 ?_
 refine runQ hN fun K hK=>?_
 simp [-Q0,-Q9,-Q3,-Qa,-Q4,eL,eI,Q2,Q7,Qf,Cat.cells,Mnd.cells]
 repeat with_reducible refine sdQ ?_
 refine hK _ ?_;clear hK K
 refine tn ?_
 refine Qd (st':=⟨[(2,.adr 0 0 0),(3,.val (.int .i64 v1.2.2.2))],[(0,.mix 5 [[.val (.int .i64 v1.1.n),.own 1 0 v1.1.fr.length,.own 2 0 v1.1.to.length,.own 3 0 v1.1.id.length,.own 4 0 v1.1.cs.length]]),(1,.row 1 (Is v1.1.fr)),(2,.row 1 (Is v1.1.to)),(3,.row 1 (Is v1.1.id)),(4,.row 1 (Ls v1.1.cs))],5⟩) (Wk.r1 [(0,0),(2,1),(3,2),(4,3),(5,4)] (by simp [hP,hhOk,back,Cat.cells,Mnd.cells,UA,U1,IA,I1,LA,L1,BA,B1,EA,E1,E2,eB,eI,eL])) ?_
 refine Qn ?_
 have hr:=Option.some.inj h
 rw [← hr]
 refine ⟨_,(.cell Q76 rfl rfl rfl (by simp) (by simp) (.tmp .nil)),?_⟩
 refine ⟨(.agg rfl (.one rfl rfl .nil)),[.val (.int .i64 v1.1.n),.lst true 1 (Is v1.1.fr),.lst true 1 (Is v1.1.to),.lst true 1 (Is v1.1.id),.lst true 1 (Ls v1.1.cs),.val (.int .i64 v1.2.2.2)],[1,2,3,4],by simp [Cat.cells,Mnd.cells,UA,U1,IA,I1,LA,L1,BA,B1,EA,E1,E2,eB,eI,eL],by simp,(UpL.refl _)⟩
end Go.Vc.T
namespace Go.Vc.T
open Go Go.Vc Go.Proofs
noncomputable def algS (m_:Mnd):Option (Int ⊕ (Int × List Int × List Int × List Int × List (List Int) × List XAlgebra × List (List Int) × (List (ByteArray × Int)))) :=
 (
  (Q15 m_).bind fun v2 =>
  if ¬ (v2=true) then
   some (Sum.inl 1)
  else
   (
    (QL m_).bind fun v5 =>
    if (v5.length:Int) > 8 then
     some (Sum.inl ())
    else
     (QI (σ:=List (List Int) × Int) (ε:=List (List Int)) (fun s41 =>
      if s41.2<(v5.length:Int) then
       (
        ass (0≤s41.2∧s41.2<(v5.length:Int)) <|
        (QI (σ:=List (List Int) × Int) (ε:=List (List Int)) (fun s59 =>
         if s59.2<(v5.length:Int) then
          (
           ass (0≤s59.2∧s59.2<(v5.length:Int)) <|
           (QK m_ (gx v5 s41.2) (gx v5 s59.2)).bind fun v63 =>
           (QI (σ:=List (List Int) × Int) (ε:=List (List Int)) (fun s68 =>
            if s68.2<(v63.length:Int) then
             ass (0≤s68.2∧s68.2<(v63.length:Int)) <|
             ass ((s68.1++[[s41.2,s59.2,ix v63 s68.2]]).length≤1073741824) <|
             ass (B64 (s68.2+1)) <|
             some (Ctl.next (s68.1++[[s41.2,s59.2,ix v63 s68.2]],s68.2+1))
            else
             some (Ctl.ret s68.1)) fuel (s59.1,0)).bind fun p68 =>
           some p68:Option (List (List Int))).bind fun b61 =>
          ass (B64 (s59.2+1)) <|
          some (Ctl.next (b61,s59.2+1))
         else
          some (Ctl.ret s59.1)) fuel (s41.1,0)).bind fun p59 =>
        some p59:Option (List (List Int))).bind fun b43 =>
       ass (B64 (s41.2+1)) <|
       some (Ctl.next (b43,s41.2+1))
      else
       some (Ctl.ret s41.1)) fuel ([],0)).bind fun b7 =>
     if (b7.length:Int) > 40 then
      some (Sum.inl ())
     else
      (Q2t b7).bind fun v76 =>
      (Q1M b7 0).bind fun v77 =>
      (Q1M b7 1).bind fun v78 =>
      (QI (σ:=List Int × Int) (ε:=List Int) (fun s86 =>
       if s86.2<(v5.length:Int) then
        ass (0≤s86.2∧s86.2<(v5.length:Int)) <|
        ass (0≤(gx v5 s86.2).x_∧(gx v5 s86.2).x_<(m_.f.s.id.length:Int)) <|
        (QU (⟨m_,(⟨(v5.length:Int),v77,v78,s86.1,[]⟩:Cat),v5,b7,v76⟩:XAlgebras) s86.2 s86.2 (ix m_.f.s.id ((gx v5 s86.2).x_))).bind fun v90 =>
        ass ((s86.1++[v90]).length≤1073741824) <|
        ass (B64 (s86.2+1)) <|
        some (Ctl.next (s86.1++[v90],s86.2+1))
       else
        some (Ctl.ret s86.1)) fuel ([],0)).bind fun b79 =>
      (
       (Qs (⟨(v5.length:Int),v77,v78,b79,[]⟩:Cat)).bind fun v94 =>
       ass (0≤v94∧v94≤1073741824) <|
       (QI (σ:=List (List Int) × Int) (ε:=List (List Int)) (fun s125 =>
        if s125.2<((List.replicate v94.toNat ([]:List Int)).length:Int) then
         (
          ass (0≤v94∧v94≤1073741824) <|
          ass (0≤s125.2∧s125.2<(s125.1.length:Int)) <|
          ass (0≤s125.2∧s125.2<((s125.1.set s125.2.toNat (List.replicate v94.toNat 0)).length:Int)) <|
          (QI (σ:=List (List Int) × Int) (ε:=List (List Int)) (fun s142 =>
           if s142.2<((rx (s125.1.set s125.2.toNat (List.replicate v94.toNat 0)) s125.2).length:Int) then
            (
             ass (0≤s125.2∧s125.2<(s142.1.length:Int)) <|
             ass (0≤s142.2∧s142.2<((rx s142.1 s125.2).length:Int)) <|
             ass (0≤s125.2∧s125.2<(v78.length:Int)) <|
             ass (0≤s142.2∧s142.2<(v77.length:Int)) <|
             if (ix v78 s125.2)=(ix v77 s142.2) then
              ass (0≤s125.2∧s125.2<((s142.1.set s125.2.toNat ((rx s142.1 s125.2).set s142.2.toNat (-1))).length:Int)) <|
              (QG s125.2 s142.2 (⟨m_,(⟨(v5.length:Int),v77,v78,b79,s142.1.set s125.2.toNat ((rx s142.1 s125.2).set s142.2.toNat (-1))⟩:Cat),v5,b7,v76⟩:XAlgebras) m_.f.s).bind fun v151 =>
              ass (0≤s142.2∧s142.2<((rx (s142.1.set s125.2.toNat ((rx s142.1 s125.2).set s142.2.toNat (-1))) s125.2).length:Int)) <|
              some ((s142.1.set s125.2.toNat ((rx s142.1 s125.2).set s142.2.toNat (-1))).set s125.2.toNat ((rx (s142.1.set s125.2.toNat ((rx s142.1 s125.2).set s142.2.toNat (-1))) s125.2).set s142.2.toNat v151))
             else
              some (s142.1.set s125.2.toNat ((rx s142.1 s125.2).set s142.2.toNat (-1))):Option (List (List Int))).bind fun b144 =>
            ass (B64 (s142.2+1)) <|
            some (Ctl.next (b144,s142.2+1))
           else
            some (Ctl.ret s142.1)) fuel (s125.1.set s125.2.toNat (List.replicate v94.toNat 0),0)).bind fun p142 =>
          some p142:Option (List (List Int))).bind fun b127 =>
         ass (B64 (s125.2+1)) <|
         some (Ctl.next (b127,s125.2+1))
        else
         some (Ctl.ret s125.1)) fuel (List.replicate v94.toNat ([]:List Int),0)).bind fun p125 =>
       some p125:Option (List (List Int))).bind fun v155 =>
      some (Sum.inr ((v5.length:Int),v77,v78,b79,v155,v5,b7,v76)):Option (Unit ⊕ (Int × List Int × List Int × List Int × List (List Int) × List XAlgebra × List (List Int) × (List (ByteArray × Int))))).bind fun v156 =>
   match v156 with
   | .inl v156 =>
    if ¬ (false=true) then
     some (Sum.inl 3)
    else
     some (Sum.inl 0)
   | .inr v156 =>
    if ¬ (true=true) then
     some (Sum.inl 3)
    else
     some (Sum.inr (v156.1,v156.2.1,v156.2.2.1,v156.2.2.2.1,v156.2.2.2.2.1,v156.2.2.2.2.2.1,v156.2.2.2.2.2.2.1,v156.2.2.2.2.2.2.2)):Option (Int ⊕ (Int × List Int × List Int × List Int × List (List Int) × List XAlgebra × List (List Int) × (List (ByteArray × Int)))))
theorem e_arrow {m:Mnd} (hm:m.Is) (h8:(av m).length≤8) {c:Cat} {i j f:Int} (h:[i,j,f]∈alL m):QU ⟨m,c,av m,alL m,plL (alL m)⟩ i j f=some (posL (alL m) [i,j,f]):=by
 unfold QU
 rw [e_key (by simp)]
 simp only [Option.bind_some]
 rw [bC_find (Q80 hm h8) h]
theorem algS_no {m:Mnd} (hm:¬ m.Is):algS m=some (Sum.inl 1):=by
 unfold algS
 rw [Q6v,QB hm]
 simp
theorem algS_yes {m:Mnd} (hm:m.Is):algS m=some (if (av m).length≤8∧(alL m).length≤40 then Sum.inr (((av m).length:Int),(alL m).map (ix · 0),(alL m).map (ix · 1),(aC m).id,(aC m).cs,av m,alL m,plL (alL m)) else Sum.inl 3):=by
 obtain ⟨l1,l2,l3,l4,l5,l6,l7,l8,l9⟩:=hm.pre.len
 have hc:=hm.pre.f.s
 have hav:=Q83 hm
 have hlen:=al_bnd hm
 unfold algS
 rw [Q6v,QP hm]
 simp only [Option.bind_some,not_true_eq_false,if_false]
 rw [show QL m=some (av m) from e_allAlg hm]
 simp only [Option.bind_some]
 by_cases h8:(av m).length≤8
 case neg =>
  rw [if_pos (show ((av m).length:Int) > 8 by omega),if_neg (show ¬ ((av m).length≤8∧(alL m).length≤40) from fun h=>h8 h.1)]
  simp
 rw [if_neg (show ¬ ((av m).length:Int) > 8 by omega)]
 have hk:=Q80 hm h8
 rw [Option.bind_assoc]
 refine QN (av m).length (fun i=>alN m i) (e:=alL m) rfl (by omega) (fun i hi=>?_) (by simp [alL];try omega) ?_
 ·have hL:=Q7h hm i
  have hL2:i * 12800≤320 * 12800:=Nat.mul_le_mul_right _ (by omega)
  simp only
  rw [if_pos (by omega),Qg (by omega)]
  simp only [Option.bind_assoc]
  refine QN (av m).length (fun k=>alN m i++alX m i k) (e:=alN m (i+1)) (by simp [alX]) (by omega) (fun k hk=>?_) (by simp [Q5W];try omega) ?_
  ·have hX:=Q7i m (by omega) i k
   have hX2:k * 40≤320 * 40:=Nat.mul_le_mul_right _ (by omega)
   simp only
   rw [if_pos (by omega),Qg (by omega),(e_amp hm (s:=i) (t:=k) (by omega) (by omega)).2]
   simp only [Option.bind_some,Option.bind_assoc]
   have hH:(amp m i k).length≤40:=Nat.le_trans (Q3P _ _ _ _ _) (by omega)
   refine QN (amp m i k).length (fun j=>(alN m i++alX m i k)++((amp m i k).take j).map fun f=>[(i:Int),(k:Int),f]) (e:=alN m i++alX m i (k+1)) (by simp) (by omega) (fun j hj=>?_) (by simp [Q5X,alF]) ?_
   ·have hs:(amp m i k).take (j+1)=(amp m i k).take j++[ix (amp m i k) j]:=by rw [List.take_succ_eq_append_getElem hj,Q1w _ _ hj]
    simp (disch:=omega) [Qg,B64,hs,hj];try omega
   try simp only [Option.bind_some]
   rw [Qg (by unfold B64;omega)]
  try simp only [Option.bind_some]
  rw [Qg (by unfold B64;omega)]
 by_cases h40:(alL m).length≤40
 case neg =>
  rw [if_pos (show ((alL m).length:Int) > 40 by omega),if_neg (show ¬ ((av m).length≤8∧(alL m).length≤40) from fun h=>h40 h.2)]
  simp
 rw [if_neg (show ¬ ((alL m).length:Int) > 40 by omega),if_pos (show (av m).length≤8∧(alL m).length≤40 from ⟨h8,h40⟩),e_places (by omega) fun x hx=>by rw [al3 x hx];omega]
 simp only [Option.bind_some]
 rw [(Q89 (L:=alL m) (k:=0) (by omega) (by omega) fun x hx=>by rw [al3 x hx];omega).1,(Q89 (L:=alL m) (k:=1) (by omega) (by omega) fun x hx=>by rw [al3 x hx];omega).1]
 simp only [Option.bind_some,Option.bind_assoc]
 refine Q8A (av m).length (fun s=>posL (alL m) [(s:Int),(s:Int),ix m.f.s.id (gx (av m) s).x_]) (e:=(aC m).id) (by omega) (fun i hi=>?_) (by simp [aC,bC]) ?_
 ·have hx:=(gxm hm (s:=i) (by omega)).x
  simp only
  rw [if_pos (by omega),Qg (by omega),Qg (by omega),e_arrow hm h8 (mem_al.2 ⟨i,i,_,by omega,by omega,al_one hm (by omega),rfl⟩)]
  rfl
 unfold Qs
 simp only [Option.bind_some,List.length_map,Int.toNat_natCast]
 rw [Qg (by omega),Option.bind_assoc]
 refine QN (alL m).length (fun i=>mixr (alL m).length i (fun i=>tab (alL m).length (bRow (alL m) (aCmp m) i)) []) (e:=(aC m).cs) (Q6S _ _ _).symm (by omega) (fun i hi=>?_) (by simp [Q8q];rfl) (by simp)
 obtain ⟨x,y,f,hx,hy,hf,hi3⟩:=Q81 hi
 have fa:=(Q3S hf).1
 have ei:=fun k=>ix_map hi k
 simp only
 rw [if_pos (by simp;omega),Qg (by omega),Qg (by simp;omega),Qg (by simp;omega),Option.bind_assoc]
 simp only [Int.toNat_natCast]
 rw [rx_set (by simp;omega)]
 refine QN (alL m).length (fun k=>(mixr (alL m).length i (fun i=>tab (alL m).length (bRow (alL m) (aCmp m) i)) []).set i (mixr (alL m).length k (bRow (alL m) (aCmp m) i) 0)) (e:=(mixr (alL m).length i (fun i=>tab (alL m).length (bRow (alL m) (aCmp m) i)) []).set i (tab (alL m).length (bRow (alL m) (aCmp m) i))) (by simp [Q6S]) (by omega) (fun k hk2=>?_) (by simp [Q8q]) ?_
 ·obtain ⟨y',z,g,hy',hz,hg,hj3⟩:=Q81 hk2
  have ga:=(Q3S hg).1
  have ek:=fun q=>ix_map hk2 q
  have hl:i<(mixr (alL m).length i (fun i=>tab (alL m).length (bRow (alL m) (aCmp m) i)) []).length:=by simpa using hi
  simp only
  rw [if_pos (by simp;omega)]
  simp only [Int.toNat_natCast,rx_set hl,List.set_set]
  rw [Qg (by simp;omega),Qg (by simp;omega),Qg (by simp;omega),Qg (by simp;omega),ei,ek]
  by_cases e:ix (rx (alL m) i) 1=ix (rx (alL m) k) 0
  ·rw [if_pos e,Qg (by simp;omega)]
   have e':y=y':=by rw [hi3,hj3] at e;simpa [ix] using e
   subst e'
   have q:bRow (alL m) (aCmp m) i k=posL (alL m) [ix (rx (alL m) i) 0,ix (rx (alL m) k) 1,ix (rx m.f.s.cs (ix (rx (alL m) i) 2)) (ix (rx (alL m) k) 2)]:=by unfold bRow;rw [if_pos e];rfl
   have b:=Ar.thn hc (f:=ix (rx (alL m) i) 2) (g:=ix (rx (alL m) k) 2) (by rw [hi3];exact fa) (by rw [hj3];exact ga)
   have hin:[ix (rx (alL m) i) 0,ix (rx (alL m) k) 1,ix (rx m.f.s.cs (ix (rx (alL m) i) 2)) (ix (rx (alL m) k) 2)]∈alL m:=by
    rw [hi3,hj3]
    exact mem_al.2 ⟨x,z,_,hx,hz,al_two hm hx hy hz hf hg,rfl⟩
   unfold QG
   simp only
   rw [Qg (by omega),Qg (by omega),Qg (by rw [hi3];simp),Qg (by rw [hj3];simp),Qg (by rw [hi3];simp),Qg (by rw [hj3];simp),b.2]
   simp only [Option.bind_some]
   rw [e_arrow hm h8 hin]
   simp only [Option.bind_some]
   rw [Qg (by simp;omega)]
   simp only [Option.bind_some]
   rw [Qg (by unfold B64;omega),← Q6a,q]
  have q:bRow (alL m) (aCmp m) i k = -1:=by unfold bRow;rw [if_neg e]
  rw [if_neg e]
  simp only [Option.bind_some]
  rw [Qg (by unfold B64;omega),← Q6a,q]
 simp only [Option.bind_some]
 rw [Qg (by unfold B64;omega),← Q6a]
theorem aC_fr (m:Mnd):(aC m).fr.length=(alL m).length∧(aC m).n=((av m).length:Int):=by simp [aC,bC]
theorem e_aCode (m:Mnd):(m.Is∧(av m).length≤8∧(alL m).length≤40∧Q23 m=some (aC m,avL m,alL m,0)∧algS m=some (Sum.inr (((av m).length:Int),(alL m).map (ix · 0),(alL m).map (ix · 1),(aC m).id,(aC m).cs,av m,alL m,plL (alL m)))) ∨
  ∃ z:Int,(z=1∨z=3)∧Q23 m=some (zeroC,[],[],z)∧algS m=some (Sum.inl z):=by
 unfold Q23
 rw [e_l16Is]
 by_cases hm:m.Is
 case neg=>exact .inr ⟨1,.inl rfl,by rw [QB hm];simp [zeroC],algS_no hm⟩
 obtain ⟨e1,e2⟩:=aC_fr m
 rw [algS_yes hm]
 simp only [QP hm,Option.bind_some,not_true_eq_false,if_false,Q8H hm]
 by_cases h:(av m).length≤8∧(alL m).length≤40
 ·refine .inl ⟨hm,h.1,h.2,?_,by rw [if_pos h]⟩
  rw [if_pos h,Q64,QP (by omega)]
  simp
 refine .inr ⟨3,.inr rfl,?_,by rw [if_neg h]⟩
 rw [if_neg h,Q64,QB (by simp only [aC,bC,List.length_map];omega)]
 simp [zeroC]
theorem aC_ok {m:Mnd} (h8:(av m).length≤8) (h40:(alL m).length≤40):(aC m).ok∧(aC m).size≤2000:=bC_ok (by omega) h40
theorem Q4r (m:Mnd):∃ r,Q1l m=some r∧Q1k m=some r∧r.1.ok∧r.1.size≤2000:=by
 have hu:Q1k m=(algS m).bind fun v=>match v with
  | .inl v=>if ¬ (v=0) then some (zeroC,v) else ass (False) <| none
  | .inr v=>if ¬ ((0:Int)=0) then some (zeroC,0) else some (⟨v.1,v.2.1,v.2.2.1,v.2.2.2.1,v.2.2.2.2.1⟩,0):=rfl
 rw [hu]
 unfold Q1l
 rcases e_aCode m with ⟨hm,h8,h40,h1,h2⟩|⟨z,hz,h1,h2⟩
 ·rw [h1,h2]
  exact ⟨(aC m,0),rfl,by simp;rfl,aC_ok h8 h40⟩
 rw [h1,h2]
 exact ⟨(zeroC,z),rfl,by simp only [Option.bind_some];rw [if_pos (by omega)],zeroC_ok⟩
end Go.Vc.T
