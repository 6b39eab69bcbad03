/- A part of the proof: a verified generator of conditions, and what each function of the program does. -/
import Derived.Test.YtfinipknacaojaaGreatP9
set_option maxRecDepth 100000
set_option maxHeartbeats 4000000
set_option linter.unusedSimpArgs false
set_option linter.unusedVariables false

namespace Go.Vc.T
open Go Go.Vc Go.Proofs
noncomputable def QL (m_:Mnd):Option (List (List Int)) :=
 (QH (σ:=List (List Int) × Int) (ε:=List (List Int)) (fun s34 =>
  if s34.2<m_.f.s.n then
   (
    (QH (σ:=List (List Int) × Int) (ε:=List (List Int)) (fun s51 =>
     if s51.2<m_.f.s.n then
      (
       (Q12 m_ s51.2).bind fun v54 =>
       (QR m_.f.s s34.2 v54).bind fun v55 =>
       (QH (σ:=List (List Int) × Int) (ε:=List (List Int)) (fun s60 =>
        if s60.2<(v55.length:Int) then
         ass (0≤s60.2∧s60.2<(v55.length:Int)) <|
         ass ((s60.1++[[s34.2,s51.2,ix v55 s60.2]]).length≤1073741824) <|
         ass (B64 (s60.2+1)) <|
         some (Ctl.next (s60.1++[[s34.2,s51.2,ix v55 s60.2]],s60.2+1))
        else
         some (Ctl.ret s60.1)) fuel (s51.1,0)).bind fun p60 =>
       some p60:Option (List (List Int))).bind fun b53 =>
      ass (B64 (s51.2+1)) <|
      some (Ctl.next (b53,s51.2+1))
     else
      some (Ctl.ret s51.1)) fuel (s34.1,0)).bind fun p51 =>
    some p51:Option (List (List Int))).bind fun b36 =>
   ass (B64 (s34.2+1)) <|
   some (Ctl.next (b36,s34.2+1))
  else
   some (Ctl.ret s34.1)) fuel ([],0)).bind fun b1 =>
 some b1
theorem Q3e (m_:Mnd) (r:List (List Int)) (h:QL m_=some r):Contract Tryz.prog 118 [.rptr (m_.cells true)] (.lst true 1 (Ls r)):=by
 refine Qi (rvs:=[.tmp 2]) (rs:=[.lst true 1 (Ls r)]) Tryz.func118 rfl rfl rfl rfl (by simp [Tryz.f118]) fun F hN hP=>?_
 unfold QL at h
 refine Q6 ?_
 refine runQ hN fun K hK=>?_
 simp [-Q0,-Q8,-Q3,-Q9,-Q4,eL,eI,Q1,Q5,Qc,Cat.cells,Mnd.cells]
 repeat with_reducible refine sdQ ?_
 refine hK _ ?_;clear hK K
 refine tn ?_
 refine Qa (st':=⟨[(0,.rptr (Mnd.cells true m_))],[],0⟩) (Wk.r1 [] (by simp [hP,hhOk,back,Cat.cells,Mnd.cells,UA,U1,IA,I1,LA,L1,BA,B1,EA,E1,E2,eB,eI,eL])) ?_
 refine Q6 ?_
 refine runQ hN fun K hK=>?_
 simp [-Q0,-Q8,-Q3,-Q9,-Q4,eL,eI,Q1,Q5,Qc,Cat.cells,Mnd.cells]
 repeat with_reducible refine sdQ ?_
 refine hK _ ?_;clear hK K
 refine tn ?_
 refine Qa (st':=⟨[(0,.rptr (Mnd.cells true m_)),(3,.rptr (Mnd.cells true m_))],[],0⟩) (Wk.r1 [] (by simp [hP,hhOk,back,Cat.cells,Mnd.cells,UA,U1,IA,I1,LA,L1,BA,B1,EA,E1,E2,eB,eI,eL])) ?_
 refine Q6 ?_
 refine runQ hN fun K hK=>?_
 simp [-Q0,-Q8,-Q3,-Q9,-Q4,eL,eI,Q1,Q5,Qc,Cat.cells,Mnd.cells]
 repeat with_reducible refine sdQ ?_
 refine hK _ ?_;clear hK K
 refine tn ?_
 refine Qa (st':=⟨[(0,.rptr (Mnd.cells true m_)),(3,.rptr (Mnd.cells true m_)),(4,.own 0 0 0)],[(0,.mix 1 [])],1⟩) (Wk.r1 [(0,0)] (by simp [hP,hhOk,back,Cat.cells,Mnd.cells,UA,U1,IA,I1,LA,L1,BA,B1,EA,E1,E2,eB,eI,eL])) ?_
 refine Q6 ?_
 refine Q6 ?_
 refine runQ hN fun K hK=>?_
 simp [-Q0,-Q8,-Q3,-Q9,-Q4,eL,eI,Q1,Q5,Qc,Cat.cells,Mnd.cells]
 repeat with_reducible refine sdQ ?_
 refine hK _ ?_;clear hK K
 refine tn ?_
 refine Qa (st':=⟨[(0,.rptr (Mnd.cells true m_)),(3,.rptr (Mnd.cells true m_)),(4,.own 0 0 0),(5,.val (.int .i64 0))],[(0,.mix 1 [])],1⟩) (Wk.r1 [(0,0)] (by simp [hP,hhOk,back,Cat.cells,Mnd.cells,UA,U1,IA,I1,LA,L1,BA,B1,EA,E1,E2,eB,eI,eL])) ?_
 replace h:=bind_some h
 obtain ⟨e1,h,h1⟩:=h
 refine Qm (fun b1:List (List Int)=>⟨[(4,.own 0 0 b1.length)],[(0,.row 1 (Ls b1))],1⟩) (fun b1=>b1=e1) ?_ ?_
 ·refine Qf ?_
  refine Qy h (fun s34:List (List Int) × Int=>⟨[(0,.rptr (Mnd.cells true m_)),(3,.rptr (Mnd.cells true m_)),(4,.own 0 0 s34.1.length),(5,.val (.int .i64 s34.2))],[(0,.row 1 (Ls s34.1))],1⟩) (Q3h ⟨[(0,.rptr (Mnd.cells true m_)),(3,.rptr (Mnd.cells true m_)),(4,.own 0 0 0),(5,.val (.int .i64 0))],[(0,.row 1 (Ls []))],1⟩ (Wk.nils [] (by simp) (by simp) (by simp [nlA]) (by simp [entN,nlL,nlA,Cat.cells,Mnd.cells,UA,U1,IA,I1,LA,L1,BA,B1,EA,E1,E2,eB,eI,eL]) (by simp)) (Wk.r1 [(0,0)] (by simp [hP,hhOk,back,Cat.cells,Mnd.cells,UA,U1,IA,I1,LA,L1,BA,B1,EA,E1,E2,eB,eI,eL]))) ?_
  clear h
  intro k34 s34 c34 h hk34
  refine Q6 ?_
  refine Q6 ?_
  refine runQ hN fun K hK=>?_
  simp [-Q0,-Q8,-Q3,-Q9,-Q4,eL,eI,Q1,Q5,Qc,Cat.cells,Mnd.cells]
  repeat with_reducible refine sdQ ?_
  refine hK _ ?_;clear hK K
  refine tn ?_
  refine Qa (st':=⟨[(0,.rptr (Mnd.cells true m_)),(3,.rptr (Mnd.cells true m_)),(4,.own 0 0 s34.1.length),(5,.val (.int .i64 s34.2)),(19,.val (.bool (decide (s34.2<m_.f.s.n))))],[(0,.row 1 (Ls s34.1))],1⟩) (Wk.r1 [(0,0)] (by simp [hP,hhOk,back,Cat.cells,Mnd.cells,UA,U1,IA,I1,LA,L1,BA,B1,EA,E1,E2,eB,eI,eL])) ?_
  refine Qg rfl (fun g=>?_) fun g=>?_
  ·have g35:s34.2<m_.f.s.n:=gQ
   clear g
   replace h:=if_l g35 h
   refine Qh ?_
   refine tn ?_
   refine Q6 ?_
   replace h:=bind_some h
   obtain ⟨e36,h,h36⟩:=h
   refine Qm (fun b36:List (List Int)=>⟨[(0,.rptr (Mnd.cells true m_)),(3,.rptr (Mnd.cells true m_)),(4,.own 0 0 b36.length),(5,.val (.int .i64 s34.2))],[(0,.row 1 (Ls b36))],1⟩) (fun b36=>b36=e36) ?_ ?_
   ·refine Qf ?_
    refine Q6 ?_
    refine runQ hN fun K hK=>?_
    simp [-Q0,-Q8,-Q3,-Q9,-Q4,eL,eI,Q1,Q5,Qc,Cat.cells,Mnd.cells]
    repeat with_reducible refine sdQ ?_
    refine hK _ ?_;clear hK K
    refine tn ?_
    refine Qa (st':=⟨[(0,.rptr (Mnd.cells true m_)),(3,.rptr (Mnd.cells true m_)),(4,.own 0 0 s34.1.length),(5,.val (.int .i64 s34.2)),(6,.val (.int .i64 0))],[(0,.row 1 (Ls s34.1))],1⟩) (Wk.r1 [(0,0)] (by simp [hP,hhOk,back,Cat.cells,Mnd.cells,UA,U1,IA,I1,LA,L1,BA,B1,EA,E1,E2,eB,eI,eL])) ?_
    refine Qf ?_
    replace h:=bind_some h
    obtain ⟨e51,he51,h51⟩:=h
    refine Qy he51 (fun s51:List (List Int) × Int=>⟨[(0,.rptr (Mnd.cells true m_)),(3,.rptr (Mnd.cells true m_)),(4,.own 0 0 s51.1.length),(5,.val (.int .i64 s34.2)),(6,.val (.int .i64 s51.2))],[(0,.row 1 (Ls s51.1))],1⟩) (Wk.r1 [(0,0)] (by simp [hP,hhOk,back,Cat.cells,Mnd.cells,UA,U1,IA,I1,LA,L1,BA,B1,EA,E1,E2,eB,eI,eL])) ?_
    intro k51 s51 c51 h hk51
    refine Q6 ?_
    refine Q6 ?_
    refine runQ hN fun K hK=>?_
    simp [-Q0,-Q8,-Q3,-Q9,-Q4,eL,eI,Q1,Q5,Qc,Cat.cells,Mnd.cells]
    repeat with_reducible refine sdQ ?_
    refine hK _ ?_;clear hK K
    refine tn ?_
    refine Qa (st':=⟨[(0,.rptr (Mnd.cells true m_)),(3,.rptr (Mnd.cells true m_)),(4,.own 0 0 s51.1.length),(5,.val (.int .i64 s34.2)),(6,.val (.int .i64 s51.2)),(27,.val (.bool (decide (s51.2<m_.f.s.n))))],[(0,.row 1 (Ls s51.1))],1⟩) (Wk.r1 [(0,0)] (by simp [hP,hhOk,back,Cat.cells,Mnd.cells,UA,U1,IA,I1,LA,L1,BA,B1,EA,E1,E2,eB,eI,eL])) ?_
    refine Qg rfl (fun g=>?_) fun g=>?_
    ·have g52:s51.2<m_.f.s.n:=gQ
     clear g
     replace h:=if_l g52 h
     refine Qh ?_
     refine tn ?_
     refine Q6 ?_
     replace h:=bind_some h
     obtain ⟨e53,h,h53⟩:=h
     refine Qm (fun b53:List (List Int)=>⟨[(0,.rptr (Mnd.cells true m_)),(3,.rptr (Mnd.cells true m_)),(4,.own 0 0 b53.length),(5,.val (.int .i64 s34.2)),(6,.val (.int .i64 s51.2))],[(0,.row 1 (Ls b53))],1⟩) (fun b53=>b53=e53) ?_ ?_
     ·refine Qf ?_
      refine Q6 ?_
      refine runQ hN fun K hK=>?_
      simp [-Q0,-Q8,-Q3,-Q9,-Q4,eL,eI,Q1,Q5,Qc,Cat.cells,Mnd.cells]
      repeat with_reducible refine sdQ ?_
      replace h:=bind_some h
      obtain ⟨v54,hv54,h⟩:=h
      refine Q2 (Q3l _ _ v54 hv54) (.cons (.preT (by simp [Cat.cells,Mnd.cells])) (.cons .val .nil)) ?_
      simp [-Q0,-Q8,-Q3,-Q9,-Q4,unk,unA,unE,unT,unC,flat,eL,eI,Q1,Q5,Qc,Cat.cells,Mnd.cells]
      repeat with_reducible refine sdQ ?_
      replace h:=bind_some h
      obtain ⟨v55,hv55,h⟩:=h
      refine Q2 (Q4T _ _ _ v55 hv55) (.cons (.preT (by simp [Cat.cells,Mnd.cells])) (.cons .val (.cons .val .nil))) ?_
      simp [-Q0,-Q8,-Q3,-Q9,-Q4,unk,unA,unE,unT,unC,flat,eL,eI,Q1,Q5,Qc,Cat.cells,Mnd.cells]
      repeat with_reducible refine sdQ ?_
      refine hK _ ?_;clear hK K
      refine tn ?_
      refine Qa (st':=⟨[(0,.rptr (Mnd.cells true m_)),(3,.rptr (Mnd.cells true m_)),(4,.own 0 0 s51.1.length),(5,.val (.int .i64 s34.2)),(6,.val (.int .i64 s51.2)),(35,.own 1 0 v55.length),(36,.val (.int .i64 (v55.length:Int))),(37,.val (.int .i64 0))],[(0,.row 1 (Ls s51.1)),(1,.row 1 (Is v55))],2⟩) (Wk.r1 [(0,0),(2,1)] (by simp [hP,hhOk,back,Cat.cells,Mnd.cells,UA,U1,IA,I1,LA,L1,BA,B1,EA,E1,E2,eB,eI,eL])) ?_
      refine Qf ?_
      replace h:=bind_some h
      obtain ⟨e60,he60,h60⟩:=h
      refine Qy he60 (fun s60:List (List Int) × Int=>⟨[(0,.rptr (Mnd.cells true m_)),(3,.rptr (Mnd.cells true m_)),(4,.own 0 0 s60.1.length),(5,.val (.int .i64 s34.2)),(6,.val (.int .i64 s51.2)),(35,.own 1 0 v55.length),(36,.val (.int .i64 (v55.length:Int))),(37,.val (.int .i64 s60.2))],[(0,.row 1 (Ls s60.1)),(1,.row 1 (Is v55))],2⟩) (Wk.r1 [(0,0),(1,1)] (by simp [hP,hhOk,back,Cat.cells,Mnd.cells,UA,U1,IA,I1,LA,L1,BA,B1,EA,E1,E2,eB,eI,eL])) ?_
      intro k60 s60 c60 h hk60
      refine Q6 ?_
      refine runQ hN fun K hK=>?_
      simp [-Q0,-Q8,-Q3,-Q9,-Q4,eL,eI,Q1,Q5,Qc,Cat.cells,Mnd.cells]
      repeat with_reducible refine sdQ ?_
      refine hK _ ?_;clear hK K
      refine tn ?_
      refine Qa (st':=⟨[(0,.rptr (Mnd.cells true m_)),(3,.rptr (Mnd.cells true m_)),(4,.own 0 0 s60.1.length),(5,.val (.int .i64 s34.2)),(6,.val (.int .i64 s51.2)),(35,.own 1 0 v55.length),(36,.val (.int .i64 (v55.length:Int))),(37,.val (.int .i64 s60.2)),(38,.val (.bool (decide (s60.2<(v55.length:Int)))))],[(0,.row 1 (Ls s60.1)),(1,.row 1 (Is v55))],2⟩) (Wk.r1 [(0,0),(1,1)] (by simp [hP,hhOk,back,Cat.cells,Mnd.cells,UA,U1,IA,I1,LA,L1,BA,B1,EA,E1,E2,eB,eI,eL])) ?_
      refine Q6 ?_
      refine Qg rfl (fun g=>?_) fun g=>?_
      ·have g61:s60.2<(v55.length:Int):=gQ
       clear g
       replace h:=if_l g61 h
       refine Qh ?_
       refine tn ?_
       refine Q6 ?_
       refine Qf ?_
       refine Q6 ?_
       refine runQ hN fun K hK=>?_
       replace h:=Q7 h
       obtain ⟨a62,h⟩:=h
       simp [-Q0,-Q8,-Q3,-Q9,-Q4,eL,eI,Q1,Q5,Qc,Cat.cells,Mnd.cells,at_I a62]
       repeat with_reducible refine sdQ ?_
       refine hK _ ?_;clear hK K
       refine tn ?_
       refine Qa (st':=⟨[(0,.rptr (Mnd.cells true m_)),(3,.rptr (Mnd.cells true m_)),(4,.own 0 0 s60.1.length),(5,.val (.int .i64 s34.2)),(6,.val (.int .i64 s51.2)),(8,.val (.int .i64 (ix v55 s60.2))),(35,.own 1 0 v55.length),(36,.val (.int .i64 (v55.length:Int))),(37,.val (.int .i64 s60.2))],[(0,.row 1 (Ls s60.1)),(1,.row 1 (Is v55))],2⟩) (Wk.r1 [(0,0),(1,1)] (by simp [hP,hhOk,back,Cat.cells,Mnd.cells,UA,U1,IA,I1,LA,L1,BA,B1,EA,E1,E2,eB,eI,eL])) ?_
       refine runQ hN fun K hK=>?_
       replace h:=Q7 h
       obtain ⟨a63,h⟩:=h
       try simp only [List.length_append,List.length_cons,List.length_nil] at a63
       simp [-Q0,-Q8,-Q3,-Q9,-Q4,eL,eI,Q1,Q5,Qc,Cat.cells,Mnd.cells,a63]
       repeat with_reducible refine sdQ ?_
       refine hK _ ?_;clear hK K
       refine bn ?_
       refine tn ?_
       refine Qa (st':=⟨[(0,.rptr (Mnd.cells true m_)),(3,.rptr (Mnd.cells true m_)),(4,.own 0 0 ((s60.1++[[s34.2,s51.2,ix v55 s60.2]]).length)),(5,.val (.int .i64 s34.2)),(6,.val (.int .i64 s51.2)),(35,.own 1 0 v55.length),(36,.val (.int .i64 (v55.length:Int))),(37,.val (.int .i64 s60.2))],[(0,.row 1 (Ls (s60.1++[[s34.2,s51.2,ix v55 s60.2]]))),(1,.row 1 (Is v55))],2⟩) (Wk.r1 [(4,0),(1,1)] (by simp [hP,hhOk,back,Cat.cells,Mnd.cells,UA,U1,IA,I1,LA,L1,BA,B1,EA,E1,E2,eB,eI,eL])) ?_
       refine runQ hN fun K hK=>?_
       replace h:=Q7 h
       obtain ⟨a64,h⟩:=h
       simp [-Q0,-Q8,-Q3,-Q9,-Q4,eL,eI,Q1,Q5,Qc,Cat.cells,Mnd.cells,Qw a64]
       repeat with_reducible refine sdQ ?_
       refine hK _ ?_;clear hK K
       cases h
       exact rn (s':=(s60.1++[[s34.2,s51.2,ix v55 s60.2]],s60.2+1)) hk60 (Wk.r1 [(0,0),(1,1)] (by simp [hP,hhOk,back,Cat.cells,Mnd.cells,UA,U1,IA,I1,LA,L1,BA,B1,EA,E1,E2,eB,eI,eL]))
      have g61:¬ (s60.2<(v55.length:Int)):=gQ
      clear g
      replace h:=if_r g61 h
      refine Qp ?_
      refine tx ?_
      refine lx ?_
      refine bh ?_
      refine bn ?_
      cases h
      have q:_=e60:=hk60
      have h:=h60
      rw [← q] at h
      clear q
      try dsimp only at h
      exact jn (b:=s60.1) (Option.some.inj h) (Wk.r1 [(0,0)] (by simp [hP,hhOk,back,Cat.cells,Mnd.cells,UA,U1,IA,I1,LA,L1,BA,B1,EA,E1,E2,eB,eI,eL]))
     intro b53 hb53
     have h:=h53
     rw [← hb53] at h
     clear h53
     try dsimp only at h
     refine runQ hN fun K hK=>?_
     replace h:=Q7 h
     obtain ⟨a65,h⟩:=h
     simp [-Q0,-Q8,-Q3,-Q9,-Q4,eL,eI,Q1,Q5,Qc,Cat.cells,Mnd.cells,Qw a65]
     repeat with_reducible refine sdQ ?_
     refine hK _ ?_;clear hK K
     cases h
     exact rn (s':=(b53,s51.2+1)) hk51 (Wk.r1 [(0,0)] (by simp [hP,hhOk,back,Cat.cells,Mnd.cells,UA,U1,IA,I1,LA,L1,BA,B1,EA,E1,E2,eB,eI,eL]))
    have g52:¬ (s51.2<m_.f.s.n):=gQ
    clear g
    replace h:=if_r g52 h
    refine Qp ?_
    refine tx ?_
    refine lx ?_
    refine bh ?_
    refine bn ?_
    cases h
    have q:_=e51:=hk51
    have h:=h51
    rw [← q] at h
    clear q
    try dsimp only at h
    exact jn (b:=s51.1) (Option.some.inj h) (Wk.r1 [(0,0)] (by simp [hP,hhOk,back,Cat.cells,Mnd.cells,UA,U1,IA,I1,LA,L1,BA,B1,EA,E1,E2,eB,eI,eL]))
   intro b36 hb36
   have h:=h36
   rw [← hb36] at h
   clear h36
   try dsimp only at h
   refine runQ hN fun K hK=>?_
   replace h:=Q7 h
   obtain ⟨a66,h⟩:=h
   simp [-Q0,-Q8,-Q3,-Q9,-Q4,eL,eI,Q1,Q5,Qc,Cat.cells,Mnd.cells,Qw a66]
   repeat with_reducible refine sdQ ?_
   refine hK _ ?_;clear hK K
   cases h
   exact rn (s':=(b36,s34.2+1)) hk34 (Wk.r1 [(0,0)] (by simp [hP,hhOk,back,Cat.cells,Mnd.cells,UA,U1,IA,I1,LA,L1,BA,B1,EA,E1,E2,eB,eI,eL]))
  have g35:¬ (s34.2<m_.f.s.n):=gQ
  clear g
  replace h:=if_r g35 h
  refine Qp ?_
  refine tx ?_
  refine lx ?_
  refine bh ?_
  cases h
  exact jn (b:=s34.1) hk34 (Wk.r1 [(0,0)] (by simp [hP,hhOk,back,Cat.cells,Mnd.cells,UA,U1,IA,I1,LA,L1,BA,B1,EA,E1,E2,eB,eI,eL]))
 intro b1 hb1
 have h:=h1
 rw [← hb1] at h
 clear h1
 try dsimp only at h
 refine Q6 ?_
 refine runQ hN fun K hK=>?_
 simp [-Q0,-Q8,-Q3,-Q9,-Q4,eL,eI,Q1,Q5,Qc,Cat.cells,Mnd.cells]
 repeat with_reducible refine sdQ ?_
 refine hK _ ?_;clear hK K
 refine tn ?_
 refine Qa (st':=⟨[(2,.own 0 0 b1.length)],[(0,.row 1 (Ls b1))],1⟩) (Wk.r1 [(0,0)] (by simp [hP,hhOk,back,Cat.cells,Mnd.cells,UA,U1,IA,I1,LA,L1,BA,B1,EA,E1,E2,eB,eI,eL])) ?_
 refine Qk ?_
 have hr:=Option.some.inj h
 rw [← hr]
 refine ⟨_,(.tmp .nil),?_⟩
 refine ⟨(.one rfl rfl .nil),[.lst true 1 (Ls b1)],[0],by simp [Cat.cells,Mnd.cells,UA,U1,IA,I1,LA,L1,BA,B1,EA,E1,E2,eB,eI,eL],by simp,(UpL.refl _)⟩
end Go.Vc.T
namespace Go.Vc.T
open Go Go.Vc Go.Proofs
attribute [local simp] Q1o XBinder.cells
noncomputable def QD (f_:Int) (g_:Int) (c0_:List (List Int)) (c1_:List (ByteArray × Int)) (c2_:XBinder):Option Int :=
 ass (0≤f_∧f_<(c0_.length:Int)) <|
 ass (0≤g_∧g_<(c0_.length:Int)) <|
 ass ((0:Int)≤0∧0<((rx c0_ f_).length:Int)) <|
 ass ((0:Int)≤1∧1<((rx c0_ g_).length:Int)) <|
 ass ((0:Int)≤1∧1<((rx c0_ g_).length:Int)) <|
 ass ((0:Int)≤2∧2<((rx c0_ f_).length:Int)) <|
 ass ((0:Int)≤2∧2<((rx c0_ g_).length:Int)) <|
 (QE (ix (rx c0_ g_) 1) (ix (rx c0_ f_) 2) (ix (rx c0_ g_) 2) c2_.bind_.1 c2_.bind_.2).bind fun v8 =>
 (Q39 [[ix (rx c0_ f_) 0,ix (rx c0_ g_) 1,v8]]).bind fun v9 =>
 some ((Q1E v9 c1_).getD 0)
theorem Q27 (f_:Int) (g_:Int) (c0_:List (List Int)) (c1_:List (ByteArray × Int)) (c2_:XBinder) (r:Int) (h:QD f_ g_ c0_ c1_ c2_=some r):Contract Tryz.prog 120 [.val (.int .i64 f_),.val (.int .i64 g_),.rptr [.lst true 1 (Ls c0_)],.rptr [.cmap .str (Msi c1_)],.rptr [.rptr (Mnd.cells true c2_.monad_),.rptr (Cat.cells true c2_.c_),.fn 144 [.rptr [.rptr (Cat.cells true c2_.bind_.1)],.rptr [.rptr (Mnd.cells true c2_.bind_.2)]]]] (.val (.int .i64 r)):=by
 refine Qi (rvs:=[.tmp 7]) (rs:=[.val (.int .i64 r)]) Tryz.func120 rfl rfl rfl rfl (by simp [Tryz.f120]) fun F hN hP=>?_
 unfold QD at h
 refine Q6 ?_
 refine runQ hN fun K hK=>?_
 simp [-Q0,-Q8,-Q3,-Q9,-Q4,eL,eI,Q1,Q5,Qc,Q1o,Cat.cells,Mnd.cells,XBinder.cells]
 repeat with_reducible refine sdQ ?_
 refine hK _ ?_;clear hK K
 refine tn ?_
 refine Qa (st':=⟨[(0,.val (.int .i64 f_)),(1,.val (.int .i64 g_)),(2,.rptr [.lst true 1 (Ls c0_)]),(3,.rptr [.cmap .str (Msi c1_)]),(4,.rptr [.rptr (Mnd.cells true c2_.monad_),.rptr (Cat.cells true c2_.c_),.fn 144 [.rptr [.rptr (Cat.cells true c2_.bind_.1)],.rptr [.rptr (Mnd.cells true c2_.bind_.2)]]])],[],0⟩) (Wk.r1 [] (by simp [hP,hhOk,back,Cat.cells,Mnd.cells,XBinder.cells,UA,U1,IA,I1,LA,L1,BA,B1,EA,E1,E2,eB,eI,eL,Q6l _ Q1o _ (fun _=>rfl)])) ?_
 refine Q6 ?_
 refine runQ hN fun K hK=>?_
 replace h:=Q7 h
 obtain ⟨a1,h⟩:=h
 replace h:=Q7 h
 obtain ⟨a2,h⟩:=h
 simp [-Q0,-Q8,-Q3,-Q9,-Q4,eL,eI,Q1,Q5,Qc,Q1o,Cat.cells,Mnd.cells,XBinder.cells,at_L a1,at_L a2]
 repeat with_reducible refine sdQ ?_
 refine hK _ ?_;clear hK K
 refine tn ?_
 refine Qa (st':=⟨[(3,.rptr [.cmap .str (Msi c1_)]),(4,.rptr [.rptr (Mnd.cells true c2_.monad_),.rptr (Cat.cells true c2_.c_),.fn 144 [.rptr [.rptr (Cat.cells true c2_.bind_.1)],.rptr [.rptr (Mnd.cells true c2_.bind_.2)]]]),(8,.lst true 1 (Is (rx c0_ f_))),(9,.lst true 1 (Is (rx c0_ g_)))],[],0⟩) (Wk.r1 [] (by simp [hP,hhOk,back,Cat.cells,Mnd.cells,XBinder.cells,UA,U1,IA,I1,LA,L1,BA,B1,EA,E1,E2,eB,eI,eL,Q6l _ Q1o _ (fun _=>rfl)])) ?_
 refine Q6 ?_
 refine QV [] mo (by rw [hN];decide) fun K hK=>?_
 replace h:=Q7 h
 obtain ⟨a3,h⟩:=h
 replace h:=Q7 h
 obtain ⟨a4,h⟩:=h
 replace h:=Q7 h
 obtain ⟨a5,h⟩:=h
 replace h:=Q7 h
 obtain ⟨a6,h⟩:=h
 replace h:=Q7 h
 obtain ⟨a7,h⟩:=h
 simp [-Q0,-Q8,-Q3,-Q9,-Q4,eL,eI,Q1,Q5,Qc,Q1o,Cat.cells,Mnd.cells,XBinder.cells,(show (Is (rx c0_ f_))[0]? = some [.val (.int .i64 (ix (rx c0_ f_) 0))] from at_I (j:=0) a3),(show (Is (rx c0_ g_))[1]? = some [.val (.int .i64 (ix (rx c0_ g_) 1))] from at_I (j:=1) a4),(show (Is (rx c0_ g_))[1]? = some [.val (.int .i64 (ix (rx c0_ g_) 1))] from at_I (j:=1) a5),(show (Is (rx c0_ f_))[2]? = some [.val (.int .i64 (ix (rx c0_ f_) 2))] from at_I (j:=2) a6),(show (Is (rx c0_ g_))[2]? = some [.val (.int .i64 (ix (rx c0_ g_) 2))] from at_I (j:=2) a7)]
 repeat with_reducible refine sdQ ?_
 replace h:=bind_some h
 obtain ⟨v8,hv8,h⟩:=h
 refine Q1h (fz:=[]) (Q2G _ _ _ _ _ v8 hv8) (.cons .val (.cons .val (.cons .val (.cons .rptr (.cons .rptr .nil))))) ?_
 simp [-Q0,-Q8,-Q3,-Q9,-Q4,unk,unA,unE,unT,unC,flat,eL,eI,Q1,Q5,Qc,Q1o,Cat.cells,Mnd.cells,XBinder.cells]
 repeat with_reducible refine sdQ ?_
 replace h:=bind_some h
 obtain ⟨v9,hv9,h⟩:=h
 refine Q1h (fz:=[]) (Q5r _ v9 hv9) (.cons (.lits (es:=_) rfl (.cons rfl (.cons (.lits (es:=_) rfl (.cons rfl (.cons .val .nil) (.cons rfl (.cons .val .nil) (.cons rfl (.cons .val .nil) .nil))) rfl) .nil) .nil) rfl) .nil) ?_
 simp [-Q0,-Q8,-Q3,-Q9,-Q4,unk,unA,unE,unT,unC,flat,eL,eI,Q1,Q5,Qc,Q1o,Cat.cells,Mnd.cells,XBinder.cells]
 repeat with_reducible refine sdQ ?_
 refine hK _ ?_;clear hK K
 refine tn ?_
 refine Qa (st':=⟨[(7,.val (.int .i64 ((Q1E v9 c1_).getD 0)))],[],0⟩) (Wk.r1 [] (by simp [hP,hhOk,back,Cat.cells,Mnd.cells,XBinder.cells,UA,U1,IA,I1,LA,L1,BA,B1,EA,E1,E2,eB,eI,eL,Q6l _ Q1o _ (fun _=>rfl)])) ?_
 refine Qk ?_
 have hr:=Option.some.inj h
 rw [← hr]
 refine ⟨_,(.tmp .nil),?_⟩
 refine ⟨(.one rfl rfl .nil),[.val (.int .i64 ((Q1E v9 c1_).getD 0))],[],by simp [Cat.cells,Mnd.cells,XBinder.cells,UA,U1,IA,I1,LA,L1,BA,B1,EA,E1,E2,eB,eI,eL,Q6l _ Q1o _ (fun _=>rfl)],by simp,(UpL.refl _)⟩
end Go.Vc.T
namespace Go.Vc.T
open Go Go.Vc Go.Proofs
noncomputable def Q1f (m_:Mnd):Option (Cat × List (List Int) × Bool) :=
 (QL m_).bind fun v1 =>
 if (v1.length:Int) > 40 then
  some ((⟨0,[],[],[],[]⟩:Cat),[],false)
 else
  (Q2s v1).bind fun v3 =>
  (
   some ():Option (Unit)).bind fun v5 =>
  (Q2r v1 0).bind fun v6 =>
  (Q2r v1 1).bind fun v7 =>
  (QH (σ:=List Int × Int) (ε:=List Int) (fun s14 =>
   if s14.2<(m_.u.length:Int) then
    ass (0≤s14.2∧s14.2<(m_.u.length:Int)) <|
    (Q39 [[s14.2,s14.2,ix m_.u s14.2]]).bind fun v17 =>
    ass ((s14.1++[(Q1E v17 v3).getD 0]).length≤1073741824) <|
    ass (B64 (s14.2+1)) <|
    some (Ctl.next (s14.1++[(Q1E v17 v3).getD 0],s14.2+1))
   else
    some (Ctl.ret s14.1)) fuel ([],0)).bind fun b8 =>
  (
   (Qn (⟨m_.f.s.n,v6,v7,b8,[]⟩:Cat)).bind fun v21 =>
   ass (0≤v21∧v21≤1073741824) <|
   (QH (σ:=List (List Int) × Int) (ε:=List (List Int)) (fun s52 =>
    if s52.2<((List.replicate v21.toNat ([]:List Int)).length:Int) then
     (
      ass (0≤v21∧v21≤1073741824) <|
      ass (0≤s52.2∧s52.2<(s52.1.length:Int)) <|
      ass (0≤s52.2∧s52.2<((s52.1.set s52.2.toNat (List.replicate v21.toNat 0)).length:Int)) <|
      (QH (σ:=List (List Int) × Int) (ε:=List (List Int)) (fun s69 =>
       if s69.2<((rx (s52.1.set s52.2.toNat (List.replicate v21.toNat 0)) s52.2).length:Int) then
        (
         ass (0≤s52.2∧s52.2<(s69.1.length:Int)) <|
         ass (0≤s69.2∧s69.2<((rx s69.1 s52.2).length:Int)) <|
         ass (0≤s52.2∧s52.2<(v7.length:Int)) <|
         ass (0≤s69.2∧s69.2<(v6.length:Int)) <|
         if (ix v7 s52.2)=(ix v6 s69.2) then
          ass (0≤s52.2∧s52.2<((s69.1.set s52.2.toNat ((rx s69.1 s52.2).set s69.2.toNat (-1))).length:Int)) <|
          (QD s52.2 s69.2 v1 v3 (⟨m_,m_.f.s,(m_.f.s,m_)⟩:XBinder)).bind fun v78 =>
          ass (0≤s69.2∧s69.2<((rx (s69.1.set s52.2.toNat ((rx s69.1 s52.2).set s69.2.toNat (-1))) s52.2).length:Int)) <|
          some ((s69.1.set s52.2.toNat ((rx s69.1 s52.2).set s69.2.toNat (-1))).set s52.2.toNat ((rx (s69.1.set s52.2.toNat ((rx s69.1 s52.2).set s69.2.toNat (-1))) s52.2).set s69.2.toNat v78))
         else
          some (s69.1.set s52.2.toNat ((rx s69.1 s52.2).set s69.2.toNat (-1))):Option (List (List Int))).bind fun b71 =>
        ass (B64 (s69.2+1)) <|
        some (Ctl.next (b71,s69.2+1))
       else
        some (Ctl.ret s69.1)) fuel (s52.1.set s52.2.toNat (List.replicate v21.toNat 0),0)).bind fun p69 =>
      some p69:Option (List (List Int))).bind fun b54 =>
     ass (B64 (s52.2+1)) <|
     some (Ctl.next (b54,s52.2+1))
    else
     some (Ctl.ret s52.1)) fuel (List.replicate v21.toNat ([]:List Int),0)).bind fun p52 =>
   some p52:Option (List (List Int))).bind fun v82 =>
  some ((⟨m_.f.s.n,v6,v7,b8,v82⟩:Cat),v1,true)
theorem Q4u (m_:Mnd) (r:Cat × List (List Int) × Bool) (h:Q1f m_=some r):Contract Tryz.prog 84 [.rptr (m_.cells true)] (.tup [.agg (r.1.cells true),.lst true 1 (Ls r.2.1),.val (.bool r.2.2)]):=by
 refine Qi (rvs:=[.cell 2 31,.tmp 3,.tmp 4]) (rs:=[.agg (r.1.cells true),.lst true 1 (Ls r.2.1),.val (.bool r.2.2)]) Tryz.func84 rfl rfl rfl rfl (by simp [Tryz.f84]) fun F hN hP=>?_
 unfold Q1f at h
 refine Q6 ?_
 refine runQ hN fun K hK=>?_
 simp [-Q0,-Q8,-Q3,-Q9,-Q4,eL,eI,Q1,Q5,Qc,Cat.cells,Mnd.cells]
 repeat with_reducible refine sdQ ?_
 refine hK _ ?_;clear hK K
 refine tn ?_
 refine Qa (st':=⟨[(0,.rptr (Mnd.cells true m_)),(2,.adr 0 0 0)],[(0,.mix 5 [[.val (.int .i64 0),.val (.slice none 0 0),.val (.slice none 0 0),.val (.slice none 0 0),.val (.slice none 0 0)]])],1⟩) (Wk.r1 [(0,0)] (by simp [hP,hhOk,back,Cat.cells,Mnd.cells,UA,U1,IA,I1,LA,L1,BA,B1,EA,E1,E2,eB,eI,eL])) ?_
 refine Q6 ?_
 refine runQ hN fun K hK=>?_
 simp [-Q0,-Q8,-Q3,-Q9,-Q4,eL,eI,Q1,Q5,Qc,Cat.cells,Mnd.cells]
 repeat with_reducible refine sdQ ?_
 replace h:=bind_some h
 obtain ⟨v1,hv1,h⟩:=h
 refine Q2 (Q3e _ v1 hv1) (.cons (.preT (by simp [Mnd.cells])) .nil) ?_
 simp [-Q0,-Q8,-Q3,-Q9,-Q4,unk,unA,unE,unT,unC,flat,eL,eI,Q1,Q5,Qc,Cat.cells,Mnd.cells]
 repeat with_reducible refine sdQ ?_
 refine hK _ ?_;clear hK K
 refine tn ?_
 refine Qa (st':=⟨[(0,.rptr (Mnd.cells true m_)),(2,.adr 0 0 0),(5,.adr 1 0 0)],[(0,.mix 5 [[.val (.int .i64 0),.val (.slice none 0 0),.val (.slice none 0 0),.val (.slice none 0 0),.val (.slice none 0 0)]]),(1,.mix 1 [[.own 2 0 v1.length]]),(2,.row 1 (Ls v1))],3⟩) (Wk.r1 [(0,0),(2,1),(1,2)] (by simp [hP,hhOk,back,Cat.cells,Mnd.cells,UA,U1,IA,I1,LA,L1,BA,B1,EA,E1,E2,eB,eI,eL])) ?_
 refine Q6 ?_
 refine Q6 ?_
 refine runQ hN fun K hK=>?_
 simp [-Q0,-Q8,-Q3,-Q9,-Q4,eL,eI,Q1,Q5,Qc,Cat.cells,Mnd.cells]
 repeat with_reducible refine sdQ ?_
 refine hK _ ?_;clear hK K
 refine tn ?_
 refine Qa (st':=⟨[(0,.rptr (Mnd.cells true m_)),(2,.adr 0 0 0),(5,.adr 1 0 0),(15,.val (.bool (decide ((v1.length:Int) > 40))))],[(0,.mix 5 [[.val (.int .i64 0),.val (.slice none 0 0),.val (.slice none 0 0),.val (.slice none 0 0),.val (.slice none 0 0)]]),(1,.mix 1 [[.own 2 0 v1.length]]),(2,.row 1 (Ls v1))],3⟩) (Wk.r1 [(0,0),(1,1),(2,2)] (by simp [hP,hhOk,back,Cat.cells,Mnd.cells,UA,U1,IA,I1,LA,L1,BA,B1,EA,E1,E2,eB,eI,eL])) ?_
 refine Qg rfl (fun g=>?_) fun g=>?_
 ·have g2:(v1.length:Int) > 40:=gQ
  clear g
  replace h:=if_l g2 h
  refine Q6 ?_
  refine runQ hN fun K hK=>?_
  simp [-Q0,-Q8,-Q3,-Q9,-Q4,eL,eI,Q1,Q5,Qc,Cat.cells,Mnd.cells]
  repeat with_reducible refine sdQ ?_
  refine hK _ ?_;clear hK K
  refine tn ?_
  refine Qa (st':=⟨[(2,.adr 0 0 0),(3,.val (.slice none 0 0)),(4,.val (.bool false))],[(0,.mix 5 [[.val (.int .i64 0),.val (.slice none 0 0),.val (.slice none 0 0),.val (.slice none 0 0),.val (.slice none 0 0)]])],1⟩) (Wk.r1 [(0,0)] (by simp [hP,hhOk,back,Cat.cells,Mnd.cells,UA,U1,IA,I1,LA,L1,BA,B1,EA,E1,E2,eB,eI,eL])) ?_
  refine Qk ?_
  refine tr ?_
  have hr:=Option.some.inj h
  rw [← hr]
  refine ⟨_,(.cell Q6q rfl rfl rfl (by simp) (by simp) (.tmp (.tmp .nil))),?_⟩
  refine ⟨(.agg rfl (.one rfl rfl (.one rfl rfl .nil))),[.val (.int .i64 0),.val (.slice none 0 0),.val (.slice none 0 0),.val (.slice none 0 0),.val (.slice none 0 0),.val (.slice none 0 0),.val (.bool false)],[],by simp [Cat.cells,Mnd.cells,UA,U1,IA,I1,LA,L1,BA,B1,EA,E1,E2,eB,eI,eL],by simp,(.cons .refl (.cons .nil (.cons .nil (.cons .nil (.cons .nil (.cons .nil (.cons .refl .nil)))))))⟩
 have g2:¬ ((v1.length:Int) > 40):=gQ
 clear g
 replace h:=if_r g2 h
 refine Qh ?_
 refine tn ?_
 refine Q6 ?_
 refine QV [] mo (by rw [hN];decide) fun K hK=>?_
 simp [-Q0,-Q8,-Q3,-Q9,-Q4,eL,eI,Q1,Q5,Qc,Cat.cells,Mnd.cells]
 repeat with_reducible refine sdQ ?_
 replace h:=bind_some h
 obtain ⟨v3,hv3,h⟩:=h
 refine Q6u (fz:=[]) false (Q5V _ v3 hv3) (PurK.ofL (.cons (.whole (by simp) (by simp) (by simp)) .nil)) ?_
 simp [-Q0,-Q8,-Q3,-Q9,-Q4,unk,unA,unE,unT,unC,flat,eL,eI,Q1,Q5,Qc,Cat.cells,Mnd.cells]
 repeat with_reducible refine sdQ ?_
 refine hK _ ?_;clear hK K
 refine tn ?_
 refine Qa (st':=⟨[(0,.rptr (Mnd.cells true m_)),(2,.adr 0 0 0),(5,.adr 1 0 0),(6,.adr 3 0 0)],[(0,.mix 5 [[.val (.int .i64 0),.val (.slice none 0 0),.val (.slice none 0 0),.val (.slice none 0 0),.val (.slice none 0 0)]]),(1,.mix 1 [[.own 2 0 v1.length]]),(2,.row 1 (Ls v1)),(3,.mix 1 [[.cmap .str (Msi v3)]])],4⟩) (Wk.r1 [(0,0),(1,1),(2,2),(3,3)] (by simp [hP,hhOk,back,Cat.cells,Mnd.cells,UA,U1,IA,I1,LA,L1,BA,B1,EA,E1,E2,eB,eI,eL])) ?_
 refine Q6 ?_
 refine w_runXM [] mo (by rw [hN];decide) fun K hK=>?_
 simp [-Q0,-Q8,-Q3,-Q9,-Q4,eL,eI,Q1,Q5,Qc,Cat.cells,Mnd.cells]
 repeat with_reducible refine sdQ ?_
 replace h:=bind_some h
 obtain ⟨v5,hv5,h⟩:=h
 refine Q84 (fz:=[]) (Q6L (rvs:=[.cell 2 149]) (e:={ v:=.agg [.rptr (Mnd.cells true m_),.rptr (Mnd.cells true m_),.fn 144 [.adr 5 0 0,.adr 6 0 0]],set:=[],del:=[],new:=[(4,.mix 3 [[.rptr (Mnd.cells true m_),.rptr (Mnd.cells true m_),.fn 144 [.adr 5 0 0,.adr 6 0 0]]]),(5,.mix 1 [[.rptr (Mnd.cells true m_)]]),(6,.mix 1 [[.rptr (Mnd.cells true m_)]])],cnt:=3 }) Tryz.func119 rfl rfl rfl (by simp [Tryz.f119]) (by simp) (fineI (by simp)) (newI (by rfl)) fun F hN hP=>?_) ?_
 ·clear h
  have h:=hv5
  clear hv5
  refine Q6 ?_
  refine QV [] mo (by rw [hN];decide) fun K hK=>?_
  simp [-Q0,-Q8,-Q3,-Q9,-Q4,eL,eI,Q1,Q5,Qc,Cat.cells,Mnd.cells]
  repeat with_reducible refine sdQ ?_
  refine hK _ ?_;clear hK K
  refine tn ?_
  refine Qa (st':=⟨[(1,.adr 4 0 0),(2,.adr 5 0 0)],[(0,.mix 5 [[.val (.int .i64 0),.val (.slice none 0 0),.val (.slice none 0 0),.val (.slice none 0 0),.val (.slice none 0 0)]]),(1,.mix 1 [[.own 2 0 v1.length]]),(2,.row 1 (Ls v1)),(3,.mix 1 [[.cmap .str (Msi v3)]]),(4,.mix 1 [[.rptr (Mnd.cells true m_)]]),(5,.mix 3 [[.val (.pointer none),.val (.pointer none),.val (.nilFunc)]])],6⟩) (Wk.rP _ [(0,0),(1,1),(2,2),(3,3),(4,4),(5,5)] hP (by rfl) (by simp [hhOk,back,Cat.cells,Mnd.cells,UA,U1,IA,I1,LA,L1,BA,B1,EA,E1,E2,eB,eI,eL])) ?_
  refine Q6 ?_
  refine QV [] mo (by rw [hN];decide) fun K hK=>?_
  simp [-Q0,-Q8,-Q3,-Q9,-Q4,eL,eI,Q1,Q5,Qc,Cat.cells,Mnd.cells]
  repeat with_reducible refine sdQ ?_
  refine hK _ ?_;clear hK K
  refine tn ?_
  refine Qa (st':=⟨[(1,.adr 4 0 0),(2,.adr 5 0 0),(3,.adr 6 0 0)],[(0,.mix 5 [[.val (.int .i64 0),.val (.slice none 0 0),.val (.slice none 0 0),.val (.slice none 0 0),.val (.slice none 0 0)]]),(1,.mix 1 [[.own 2 0 v1.length]]),(2,.row 1 (Ls v1)),(3,.mix 1 [[.cmap .str (Msi v3)]]),(4,.mix 1 [[.rptr (Mnd.cells true m_)]]),(5,.mix 3 [[.val (.pointer none),.val (.pointer none),.val (.nilFunc)]]),(6,.mix 1 [[.rptr (Mnd.cells true m_)]])],7⟩) (Wk.rP _ [(0,0),(1,1),(2,2),(3,3),(4,4),(5,5),(6,6)] hP (by rfl) (by simp [hhOk,back,Cat.cells,Mnd.cells,UA,U1,IA,I1,LA,L1,BA,B1,EA,E1,E2,eB,eI,eL])) ?_
  refine Q6 ?_
  refine QV [] mo (by rw [hN];decide) fun K hK=>?_
  simp [-Q0,-Q8,-Q3,-Q9,-Q4,eL,eI,Q1,Q5,Qc,Cat.cells,Mnd.cells]
  repeat with_reducible refine sdQ ?_
  refine hK _ ?_;clear hK K
  refine tn ?_
  refine Qa (st':=⟨[(2,.adr 4 0 0)],[(0,.mix 5 [[.val (.int .i64 0),.val (.slice none 0 0),.val (.slice none 0 0),.val (.slice none 0 0),.val (.slice none 0 0)]]),(1,.mix 1 [[.own 2 0 v1.length]]),(2,.row 1 (Ls v1)),(3,.mix 1 [[.cmap .str (Msi v3)]]),(4,.mix 3 [[.rptr (Mnd.cells true m_),.rptr (Mnd.cells true m_),.fn 144 [.adr 5 0 0,.adr 6 0 0]]]),(5,.mix 1 [[.rptr (Mnd.cells true m_)]]),(6,.mix 1 [[.rptr (Mnd.cells true m_)]])],7⟩) (Wk.rP _ [(0,0),(1,1),(2,2),(3,3),(5,4),(6,5),(4,6)] hP (by rfl) (by simp [hhOk,back,Cat.cells,Mnd.cells,UA,U1,IA,I1,LA,L1,BA,B1,EA,E1,E2,eB,eI,eL])) ?_
  refine Qk ?_
  cases h
  first|refine iwg_r (st':=⟨[(2,.adr 4 0 0)],[(0,.mix 5 [[.val (.int .i64 0),.val (.slice none 0 0),.val (.slice none 0 0),.val (.slice none 0 0),.val (.slice none 0 0)]]),(1,.mix 1 [[.own 2 0 v1.length]]),(2,.row 1 (Ls v1)),(3,.mix 1 [[.cmap .str (Msi v3)]]),(4,.mix 3 [[.rptr (Mnd.cells true m_),.rptr (Mnd.cells true m_),.fn 144 [.adr 5 0 0,.adr 6 0 0]]]),(5,.mix 1 [[.rptr (Mnd.cells true m_)]]),(6,.mix 1 [[.rptr (Mnd.cells true m_)]])],7⟩) ?_ ?_|refine iwg_n (st':=⟨[(2,.adr 4 0 0)],[(0,.mix 5 [[.val (.int .i64 0),.val (.slice none 0 0),.val (.slice none 0 0),.val (.slice none 0 0),.val (.slice none 0 0)]]),(1,.mix 1 [[.own 2 0 v1.length]]),(2,.row 1 (Ls v1)),(3,.mix 1 [[.cmap .str (Msi v3)]]),(4,.mix 3 [[.rptr (Mnd.cells true m_),.rptr (Mnd.cells true m_),.fn 144 [.adr 5 0 0,.adr 6 0 0]]]),(5,.mix 1 [[.rptr (Mnd.cells true m_)]]),(6,.mix 1 [[.rptr (Mnd.cells true m_)]])],7⟩) ?_ ?_
  ·exact Wk.rP _ [(0,0),(1,1),(2,2),(3,3),(4,4),(5,5),(6,6)] hP (by rfl) (by simp [hhOk,back,Cat.cells,Mnd.cells,UA,U1,IA,I1,LA,L1,BA,B1,EA,E1,E2,eB,eI,eL])
  exact ⟨⟨_,(.cell tf_149 rfl rfl rfl (by simp) (by simp) .nil),by simp [Q1D,Cat.cells,Mnd.cells]⟩,by simp,by simp [Cat.cells,Mnd.cells]⟩
 simp [-Q0,-Q8,-Q3,-Q9,-Q4,unk,unA,unE,unT,unC,flat,eL,eI,Q1,Q5,Qc,Cat.cells,Mnd.cells]
 repeat with_reducible refine sdQ ?_
 refine hK _ ?_;clear hK K
 refine tn ?_
 refine Qa (st':=⟨[(0,.rptr (Mnd.cells true m_)),(2,.adr 0 0 0),(5,.adr 1 0 0),(6,.adr 3 0 0),(7,.adr 4 0 0)],[(0,.mix 5 [[.val (.int .i64 0),.val (.slice none 0 0),.val (.slice none 0 0),.val (.slice none 0 0),.val (.slice none 0 0)]]),(1,.mix 1 [[.own 2 0 v1.length]]),(2,.row 1 (Ls v1)),(3,.mix 1 [[.cmap .str (Msi v3)]]),(4,.mix 3 [[.rptr (Mnd.cells true m_),.rptr (Mnd.cells true m_),.fn 144 [.adr 5 0 0,.adr 6 0 0]]]),(5,.mix 1 [[.rptr (Mnd.cells true m_)]]),(6,.mix 1 [[.rptr (Mnd.cells true m_)]])],7⟩) (Wk.r1 [(0,0),(1,1),(2,2),(3,3),(7,4),(5,5),(6,6)] (by simp [hP,hhOk,back,Cat.cells,Mnd.cells,UA,U1,IA,I1,LA,L1,BA,B1,EA,E1,E2,eB,eI,eL])) ?_
 refine Q6 ?_
 refine runQ hN fun K hK=>?_
 simp [-Q0,-Q8,-Q3,-Q9,-Q4,eL,eI,Q1,Q5,Qc,Cat.cells,Mnd.cells]
 repeat with_reducible refine sdQ ?_
 replace h:=bind_some h
 obtain ⟨v6,hv6,h⟩:=h
 refine Q2 (Q5U _ _ v6 hv6) (.cons (.whole (by simp) (by simp) (by simp)) (.cons .val .nil)) ?_
 simp [-Q0,-Q8,-Q3,-Q9,-Q4,unk,unA,unE,unT,unC,flat,eL,eI,Q1,Q5,Qc,Cat.cells,Mnd.cells]
 repeat with_reducible refine sdQ ?_
 replace h:=bind_some h
 obtain ⟨v7,hv7,h⟩:=h
 refine Q2 (Q5U _ _ v7 hv7) (.cons (.whole (by simp) (by simp) (by simp)) (.cons .val .nil)) ?_
 simp [-Q0,-Q8,-Q3,-Q9,-Q4,unk,unA,unE,unT,unC,flat,eL,eI,Q1,Q5,Qc,Cat.cells,Mnd.cells]
 repeat with_reducible refine sdQ ?_
 refine hK _ ?_;clear hK K
 refine tn ?_
 refine Qa (st':=⟨[(0,.rptr (Mnd.cells true m_)),(2,.adr 0 0 0),(5,.adr 1 0 0),(6,.adr 3 0 0),(7,.adr 4 0 0),(8,.adr 7 0 0)],[(0,.mix 5 [[.val (.int .i64 0),.val (.slice none 0 0),.val (.slice none 0 0),.val (.slice none 0 0),.val (.slice none 0 0)]]),(1,.mix 1 [[.own 2 0 v1.length]]),(2,.row 1 (Ls v1)),(3,.mix 1 [[.cmap .str (Msi v3)]]),(4,.mix 3 [[.rptr (Mnd.cells true m_),.rptr (Mnd.cells true m_),.fn 144 [.adr 5 0 0,.adr 6 0 0]]]),(5,.mix 1 [[.rptr (Mnd.cells true m_)]]),(6,.mix 1 [[.rptr (Mnd.cells true m_)]]),(7,.mix 5 [[.val (.int .i64 m_.f.s.n),.own 8 0 v6.length,.own 9 0 v7.length,.val (.slice none 0 0),.val (.slice none 0 0)]]),(8,.row 1 (Is v6)),(9,.row 1 (Is v7))],10⟩) (Wk.r1 [(0,0),(1,1),(2,2),(3,3),(4,4),(5,5),(6,6),(9,7),(7,8),(8,9)] (by simp [hP,hhOk,back,Cat.cells,Mnd.cells,UA,U1,IA,I1,LA,L1,BA,B1,EA,E1,E2,eB,eI,eL])) ?_
 refine Q6 ?_
 refine Q6 ?_
 refine runQ hN fun K hK=>?_
 simp [-Q0,-Q8,-Q3,-Q9,-Q4,eL,eI,Q1,Q5,Qc,Cat.cells,Mnd.cells]
 repeat with_reducible refine sdQ ?_
 refine hK _ ?_;clear hK K
 refine tn ?_
 refine Qa (st':=⟨[(2,.adr 0 0 0),(5,.adr 1 0 0),(6,.adr 3 0 0),(7,.adr 4 0 0),(8,.adr 7 0 0),(34,.lst true 1 (Is m_.u)),(35,.val (.int .i64 (m_.u.length:Int))),(36,.val (.int .i64 0))],[(0,.mix 5 [[.val (.int .i64 0),.val (.slice none 0 0),.val (.slice none 0 0),.val (.slice none 0 0),.val (.slice none 0 0)]]),(1,.mix 1 [[.own 2 0 v1.length]]),(2,.row 1 (Ls v1)),(3,.mix 1 [[.cmap .str (Msi v3)]]),(4,.mix 3 [[.rptr (Mnd.cells true m_),.rptr (Mnd.cells true m_),.fn 144 [.adr 5 0 0,.adr 6 0 0]]]),(5,.mix 1 [[.rptr (Mnd.cells true m_)]]),(6,.mix 1 [[.rptr (Mnd.cells true m_)]]),(7,.mix 5 [[.val (.int .i64 m_.f.s.n),.own 8 0 v6.length,.own 9 0 v7.length,.val (.slice none 0 0),.val (.slice none 0 0)]]),(8,.row 1 (Is v6)),(9,.row 1 (Is v7))],10⟩) (Wk.r1 [(0,0),(1,1),(2,2),(3,3),(4,4),(5,5),(6,6),(7,7),(8,8),(9,9)] (by simp [hP,hhOk,back,Cat.cells,Mnd.cells,UA,U1,IA,I1,LA,L1,BA,B1,EA,E1,E2,eB,eI,eL])) ?_
 replace h:=bind_some h
 obtain ⟨e8,h,h8⟩:=h
 refine Qm (fun b8:List Int=>⟨[(2,.adr 0 0 0),(5,.adr 1 0 0),(6,.adr 3 0 0),(7,.adr 4 0 0),(8,.adr 7 0 0)],[(0,.mix 5 [[.val (.int .i64 0),.val (.slice none 0 0),.val (.slice none 0 0),.val (.slice none 0 0),.val (.slice none 0 0)]]),(1,.mix 1 [[.own 2 0 v1.length]]),(2,.row 1 (Ls v1)),(3,.mix 1 [[.cmap .str (Msi v3)]]),(4,.mix 3 [[.rptr (Mnd.cells true m_),.rptr (Mnd.cells true m_),.fn 144 [.adr 5 0 0,.adr 6 0 0]]]),(5,.mix 1 [[.rptr (Mnd.cells true m_)]]),(6,.mix 1 [[.rptr (Mnd.cells true m_)]]),(7,.mix 5 [[.val (.int .i64 m_.f.s.n),.own 8 0 v6.length,.own 9 0 v7.length,.own 10 0 b8.length,.val (.slice none 0 0)]]),(8,.row 1 (Is v6)),(9,.row 1 (Is v7)),(10,.row 1 (Is b8))],11⟩) (fun b8=>b8=e8) ?_ ?_
 ·refine Qf ?_
  refine Qy h (fun s14:List Int × Int=>⟨[(2,.adr 0 0 0),(5,.adr 1 0 0),(6,.adr 3 0 0),(7,.adr 4 0 0),(8,.adr 7 0 0),(34,.lst true 1 (Is m_.u)),(35,.val (.int .i64 (m_.u.length:Int))),(36,.val (.int .i64 s14.2))],[(0,.mix 5 [[.val (.int .i64 0),.val (.slice none 0 0),.val (.slice none 0 0),.val (.slice none 0 0),.val (.slice none 0 0)]]),(1,.mix 1 [[.own 2 0 v1.length]]),(2,.row 1 (Ls v1)),(3,.mix 1 [[.cmap .str (Msi v3)]]),(4,.mix 3 [[.rptr (Mnd.cells true m_),.rptr (Mnd.cells true m_),.fn 144 [.adr 5 0 0,.adr 6 0 0]]]),(5,.mix 1 [[.rptr (Mnd.cells true m_)]]),(6,.mix 1 [[.rptr (Mnd.cells true m_)]]),(7,.mix 5 [[.val (.int .i64 m_.f.s.n),.own 8 0 v6.length,.own 9 0 v7.length,.own 10 0 s14.1.length,.val (.slice none 0 0)]]),(8,.row 1 (Is v6)),(9,.row 1 (Is v7)),(10,.row 1 (Is s14.1))],11⟩) (Q3h ⟨[(2,.adr 0 0 0),(5,.adr 1 0 0),(6,.adr 3 0 0),(7,.adr 4 0 0),(8,.adr 7 0 0),(34,.lst true 1 (Is m_.u)),(35,.val (.int .i64 (m_.u.length:Int))),(36,.val (.int .i64 0))],[(0,.mix 5 [[.val (.int .i64 0),.val (.slice none 0 0),.val (.slice none 0 0),.val (.slice none 0 0),.val (.slice none 0 0)]]),(1,.mix 1 [[.own 2 0 v1.length]]),(2,.row 1 (Ls v1)),(3,.mix 1 [[.cmap .str (Msi v3)]]),(4,.mix 3 [[.rptr (Mnd.cells true m_),.rptr (Mnd.cells true m_),.fn 144 [.adr 5 0 0,.adr 6 0 0]]]),(5,.mix 1 [[.rptr (Mnd.cells true m_)]]),(6,.mix 1 [[.rptr (Mnd.cells true m_)]]),(7,.mix 5 [[.val (.int .i64 m_.f.s.n),.own 8 0 v6.length,.own 9 0 v7.length,.own 10 0 0,.val (.slice none 0 0)]]),(8,.row 1 (Is v6)),(9,.row 1 (Is v7)),(10,.row 1 (Is []))],11⟩ (Wk.nils [(10,1)] (by simp) (by simp) (by simp [nlA]) (by simp [entN,nlL,nlA,Cat.cells,Mnd.cells,UA,U1,IA,I1,LA,L1,BA,B1,EA,E1,E2,eB,eI,eL]) (by simp)) (Wk.r1 [(0,0),(1,1),(2,2),(3,3),(4,4),(5,5),(6,6),(7,7),(8,8),(9,9),(10,10)] (by simp [hP,hhOk,back,Cat.cells,Mnd.cells,UA,U1,IA,I1,LA,L1,BA,B1,EA,E1,E2,eB,eI,eL]))) ?_
  clear h
  intro k14 s14 c14 h hk14
  refine Q6 ?_
  refine runQ hN fun K hK=>?_
  simp [-Q0,-Q8,-Q3,-Q9,-Q4,eL,eI,Q1,Q5,Qc,Cat.cells,Mnd.cells]
  repeat with_reducible refine sdQ ?_
  refine hK _ ?_;clear hK K
  refine tn ?_
  refine Qa (st':=⟨[(2,.adr 0 0 0),(5,.adr 1 0 0),(6,.adr 3 0 0),(7,.adr 4 0 0),(8,.adr 7 0 0),(34,.lst true 1 (Is m_.u)),(35,.val (.int .i64 (m_.u.length:Int))),(36,.val (.int .i64 s14.2)),(37,.val (.bool (decide (s14.2<(m_.u.length:Int)))))],[(0,.mix 5 [[.val (.int .i64 0),.val (.slice none 0 0),.val (.slice none 0 0),.val (.slice none 0 0),.val (.slice none 0 0)]]),(1,.mix 1 [[.own 2 0 v1.length]]),(2,.row 1 (Ls v1)),(3,.mix 1 [[.cmap .str (Msi v3)]]),(4,.mix 3 [[.rptr (Mnd.cells true m_),.rptr (Mnd.cells true m_),.fn 144 [.adr 5 0 0,.adr 6 0 0]]]),(5,.mix 1 [[.rptr (Mnd.cells true m_)]]),(6,.mix 1 [[.rptr (Mnd.cells true m_)]]),(7,.mix 5 [[.val (.int .i64 m_.f.s.n),.own 8 0 v6.length,.own 9 0 v7.length,.own 10 0 s14.1.length,.val (.slice none 0 0)]]),(8,.row 1 (Is v6)),(9,.row 1 (Is v7)),(10,.row 1 (Is s14.1))],11⟩) (Wk.r1 [(0,0),(1,1),(2,2),(3,3),(4,4),(5,5),(6,6),(7,7),(8,8),(9,9),(10,10)] (by simp [hP,hhOk,back,Cat.cells,Mnd.cells,UA,U1,IA,I1,LA,L1,BA,B1,EA,E1,E2,eB,eI,eL])) ?_
  refine Q6 ?_
  refine Qg rfl (fun g=>?_) fun g=>?_
  ·have g15:s14.2<(m_.u.length:Int):=gQ
   clear g
   replace h:=if_l g15 h
   refine Qh ?_
   refine tn ?_
   refine Q6 ?_
   refine Qf ?_
   refine Q6 ?_
   refine runQ hN fun K hK=>?_
   replace h:=Q7 h
   obtain ⟨a16,h⟩:=h
   simp [-Q0,-Q8,-Q3,-Q9,-Q4,eL,eI,Q1,Q5,Qc,Cat.cells,Mnd.cells,at_I a16]
   repeat with_reducible refine sdQ ?_
   refine hK _ ?_;clear hK K
   refine tn ?_
   refine Qa (st':=⟨[(2,.adr 0 0 0),(5,.adr 1 0 0),(6,.adr 3 0 0),(7,.adr 4 0 0),(8,.adr 7 0 0),(9,.val (.int .i64 s14.2)),(10,.val (.int .i64 (ix m_.u s14.2))),(34,.lst true 1 (Is m_.u)),(35,.val (.int .i64 (m_.u.length:Int))),(36,.val (.int .i64 s14.2))],[(0,.mix 5 [[.val (.int .i64 0),.val (.slice none 0 0),.val (.slice none 0 0),.val (.slice none 0 0),.val (.slice none 0 0)]]),(1,.mix 1 [[.own 2 0 v1.length]]),(2,.row 1 (Ls v1)),(3,.mix 1 [[.cmap .str (Msi v3)]]),(4,.mix 3 [[.rptr (Mnd.cells true m_),.rptr (Mnd.cells true m_),.fn 144 [.adr 5 0 0,.adr 6 0 0]]]),(5,.mix 1 [[.rptr (Mnd.cells true m_)]]),(6,.mix 1 [[.rptr (Mnd.cells true m_)]]),(7,.mix 5 [[.val (.int .i64 m_.f.s.n),.own 8 0 v6.length,.own 9 0 v7.length,.own 10 0 s14.1.length,.val (.slice none 0 0)]]),(8,.row 1 (Is v6)),(9,.row 1 (Is v7)),(10,.row 1 (Is s14.1))],11⟩) (Wk.r1 [(0,0),(1,1),(2,2),(3,3),(4,4),(5,5),(6,6),(7,7),(8,8),(9,9),(10,10)] (by simp [hP,hhOk,back,Cat.cells,Mnd.cells,UA,U1,IA,I1,LA,L1,BA,B1,EA,E1,E2,eB,eI,eL])) ?_
   refine QV [] mo (by rw [hN];decide) fun K hK=>?_
   simp [-Q0,-Q8,-Q3,-Q9,-Q4,eL,eI,Q1,Q5,Qc,Cat.cells,Mnd.cells]
   repeat with_reducible refine sdQ ?_
   replace h:=bind_some h
   obtain ⟨v17,hv17,h⟩:=h
   refine Q1h (fz:=[]) (Q5r _ v17 hv17) (.cons (.lits (es:=_) rfl (.cons rfl (.cons (.lits (es:=_) rfl (.cons rfl (.cons .val .nil) (.cons rfl (.cons .val .nil) (.cons rfl (.cons .val .nil) .nil))) rfl) .nil) .nil) rfl) .nil) ?_
   replace h:=Q7 h
   obtain ⟨a18,h⟩:=h
   try simp only [List.length_append,List.length_cons,List.length_nil] at a18
   simp [-Q0,-Q8,-Q3,-Q9,-Q4,unk,unA,unE,unT,unC,flat,eL,eI,Q1,Q5,Qc,Cat.cells,Mnd.cells,a18]
   repeat with_reducible refine sdQ ?_
   refine hK _ ?_;clear hK K
   refine bn ?_
   refine tn ?_
   refine Qa (st':=⟨[(2,.adr 0 0 0),(5,.adr 1 0 0),(6,.adr 3 0 0),(7,.adr 4 0 0),(8,.adr 7 0 0),(34,.lst true 1 (Is m_.u)),(35,.val (.int .i64 (m_.u.length:Int))),(36,.val (.int .i64 s14.2))],[(0,.mix 5 [[.val (.int .i64 0),.val (.slice none 0 0),.val (.slice none 0 0),.val (.slice none 0 0),.val (.slice none 0 0)]]),(1,.mix 1 [[.own 2 0 v1.length]]),(2,.row 1 (Ls v1)),(3,.mix 1 [[.cmap .str (Msi v3)]]),(4,.mix 3 [[.rptr (Mnd.cells true m_),.rptr (Mnd.cells true m_),.fn 144 [.adr 5 0 0,.adr 6 0 0]]]),(5,.mix 1 [[.rptr (Mnd.cells true m_)]]),(6,.mix 1 [[.rptr (Mnd.cells true m_)]]),(7,.mix 5 [[.val (.int .i64 m_.f.s.n),.own 8 0 v6.length,.own 9 0 v7.length,.own 10 0 ((s14.1++[(Q1E v17 v3).getD 0]).length),.val (.slice none 0 0)]]),(8,.row 1 (Is v6)),(9,.row 1 (Is v7)),(10,.row 1 (Is (s14.1++[(Q1E v17 v3).getD 0])))],11⟩) (Wk.r1 [(0,0),(1,1),(2,2),(3,3),(4,4),(5,5),(6,6),(7,7),(8,8),(9,9),(15,10)] (by simp [hP,hhOk,back,Cat.cells,Mnd.cells,UA,U1,IA,I1,LA,L1,BA,B1,EA,E1,E2,eB,eI,eL])) ?_
   refine runQ hN fun K hK=>?_
   replace h:=Q7 h
   obtain ⟨a19,h⟩:=h
   simp [-Q0,-Q8,-Q3,-Q9,-Q4,eL,eI,Q1,Q5,Qc,Cat.cells,Mnd.cells,Qw a19]
   repeat with_reducible refine sdQ ?_
   refine hK _ ?_;clear hK K
   cases h
   exact rn (s':=(s14.1++[(Q1E v17 v3).getD 0],s14.2+1)) hk14 (Wk.r1 [(0,0),(1,1),(2,2),(3,3),(4,4),(5,5),(6,6),(7,7),(8,8),(9,9),(10,10)] (by simp [hP,hhOk,back,Cat.cells,Mnd.cells,UA,U1,IA,I1,LA,L1,BA,B1,EA,E1,E2,eB,eI,eL]))
  have g15:¬ (s14.2<(m_.u.length:Int)):=gQ
  clear g
  replace h:=if_r g15 h
  refine Qp ?_
  refine tx ?_
  refine lx ?_
  refine bh ?_
  cases h
  exact jn (b:=s14.1) hk14 (Wk.r1 [(0,0),(1,1),(2,2),(3,3),(4,4),(5,5),(6,6),(7,7),(8,8),(9,9),(10,10)] (by simp [hP,hhOk,back,Cat.cells,Mnd.cells,UA,U1,IA,I1,LA,L1,BA,B1,EA,E1,E2,eB,eI,eL]))
 intro b8 hb8
 have h:=h8
 rw [← hb8] at h
 clear h8
 try dsimp only at h
 refine Q6 ?_
 refine w_runXM [] mo (by rw [hN];decide) fun K hK=>?_
 simp [-Q0,-Q8,-Q3,-Q9,-Q4,eL,eI,Q1,Q5,Qc,Cat.cells,Mnd.cells]
 repeat with_reducible refine sdQ ?_
 replace h:=bind_some h
 obtain ⟨v82,hv82,h⟩:=h
 refine Q84 (fz:=[]) (Q7w (ts:=[]) (e:={ v:=.tup [],set:=[(7,.mix 5 [[.val (.int .i64 m_.f.s.n),.own 8 0 v6.length,.own 9 0 v7.length,.own 10 0 b8.length,.own 11 0 v82.length]])],del:=[],new:=[(11,.row 1 (Ls v82))],cnt:=1 }) Tryz.func103 rfl rfl rfl (by simp [Tryz.f103]) (by simp) (fineI (by simp)) (newI (by rfl)) fun F hN hP=>?_) ?_
 ·clear h
  have h:=hv82
  clear hv82
  refine Q6 ?_
  refine QV [] mo (by rw [hN];decide) fun K hK=>?_
  simp [-Q0,-Q8,-Q3,-Q9,-Q4,eL,eI,Q1,Q5,Qc,Cat.cells,Mnd.cells]
  repeat with_reducible refine sdQ ?_
  replace h:=bind_some h
  obtain ⟨v21,hv21,h⟩:=h
  refine Q1h (fz:=[]) (QZ _ v21 hv21) (.cons (.field rfl (by simp [Cat.cells,Mnd.cells]) (.cons .val (.cons (.whole (by simp) (by simp) (by simp)) (.cons (.whole (by simp) (by simp) (by simp)) (.cons (.whole (by simp) (by simp) (by simp)) (.cons .nil .nil)))))) .nil) ?_
  simp [-Q0,-Q8,-Q3,-Q9,-Q4,unk,unA,unE,unT,unC,flat,eL,eI,Q1,Q5,Qc,Cat.cells,Mnd.cells]
  repeat with_reducible refine sdQ ?_
  refine hK _ ?_;clear hK K
  refine tn ?_
  refine Qa (st':=⟨[(0,.adr 7 0 0),(1,.fn 120 [.adr 1 0 0,.adr 3 0 0,.adr 4 0 0]),(4,.val (.int .i64 v21))],[(0,.mix 5 [[.val (.int .i64 0),.val (.slice none 0 0),.val (.slice none 0 0),.val (.slice none 0 0),.val (.slice none 0 0)]]),(1,.mix 1 [[.own 2 0 v1.length]]),(2,.row 1 (Ls v1)),(3,.mix 1 [[.cmap .str (Msi v3)]]),(4,.mix 3 [[.rptr (Mnd.cells true m_),.rptr (Mnd.cells true m_),.fn 144 [.adr 5 0 0,.adr 6 0 0]]]),(5,.mix 1 [[.rptr (Mnd.cells true m_)]]),(6,.mix 1 [[.rptr (Mnd.cells true m_)]]),(7,.mix 5 [[.val (.int .i64 m_.f.s.n),.own 8 0 v6.length,.own 9 0 v7.length,.own 10 0 b8.length,.val (.slice none 0 0)]]),(8,.row 1 (Is v6)),(9,.row 1 (Is v7)),(10,.row 1 (Is b8))],11⟩) (Wk.rP _ [(0,0),(1,1),(2,2),(3,3),(4,4),(5,5),(6,6),(7,7),(8,8),(9,9),(10,10)] hP (by rfl) (by simp [hhOk,back,Cat.cells,Mnd.cells,UA,U1,IA,I1,LA,L1,BA,B1,EA,E1,E2,eB,eI,eL])) ?_
  refine Q6 ?_
  refine QV [11] mo (by rw [hN];decide) fun K hK=>?_
  replace h:=Q7 h
  obtain ⟨a22,h⟩:=h
  simp [-Q0,-Q8,-Q3,-Q9,-Q4,eL,eI,Q1,Q5,Qc,Cat.cells,Mnd.cells]
  repeat with_reducible refine sdQ ?_
  refine hK _ ?_;clear hK K
  refine tn ?_
  refine Qa (st':=⟨[(0,.adr 7 0 0),(1,.fn 120 [.adr 1 0 0,.adr 3 0 0,.adr 4 0 0]),(4,.val (.int .i64 v21))],[(0,.mix 5 [[.val (.int .i64 0),.val (.slice none 0 0),.val (.slice none 0 0),.val (.slice none 0 0),.val (.slice none 0 0)]]),(1,.mix 1 [[.own 2 0 v1.length]]),(2,.row 1 (Ls v1)),(3,.mix 1 [[.cmap .str (Msi v3)]]),(4,.mix 3 [[.rptr (Mnd.cells true m_),.rptr (Mnd.cells true m_),.fn 144 [.adr 5 0 0,.adr 6 0 0]]]),(5,.mix 1 [[.rptr (Mnd.cells true m_)]]),(6,.mix 1 [[.rptr (Mnd.cells true m_)]]),(7,.mix 5 [[.val (.int .i64 m_.f.s.n),.own 8 0 v6.length,.own 9 0 v7.length,.own 10 0 b8.length,.own 11 0 ((List.replicate v21.toNat ([]:List Int)).length)]]),(8,.row 1 (Is v6)),(9,.row 1 (Is v7)),(10,.row 1 (Is b8)),(11,.row 1 (Ls (List.replicate v21.toNat ([]:List Int))))],12⟩) (Wk.rP _ [(0,0),(1,1),(2,2),(3,3),(4,4),(5,5),(6,6),(7,7),(8,8),(9,9),(10,10),(11,11)] hP (by rfl) (by simp [hhOk,back,Cat.cells,Mnd.cells,UA,U1,IA,I1,LA,L1,BA,B1,EA,E1,E2,eB,eI,eL])) ?_
  refine Q6 ?_
  refine QV [] mo (by rw [hN];decide) fun K hK=>?_
  simp [-Q0,-Q8,-Q3,-Q9,-Q4,eL,eI,Q1,Q5,Qc,Cat.cells,Mnd.cells]
  repeat with_reducible refine sdQ ?_
  refine hK _ ?_;clear hK K
  refine tn ?_
  refine Qa (st':=⟨[(0,.adr 7 0 0),(1,.fn 120 [.adr 1 0 0,.adr 3 0 0,.adr 4 0 0]),(4,.val (.int .i64 v21)),(18,.val (.int .i64 ((List.replicate v21.toNat ([]:List Int)).length:Int))),(19,.val (.int .i64 0))],[(0,.mix 5 [[.val (.int .i64 0),.val (.slice none 0 0),.val (.slice none 0 0),.val (.slice none 0 0),.val (.slice none 0 0)]]),(1,.mix 1 [[.own 2 0 v1.length]]),(2,.row 1 (Ls v1)),(3,.mix 1 [[.cmap .str (Msi v3)]]),(4,.mix 3 [[.rptr (Mnd.cells true m_),.rptr (Mnd.cells true m_),.fn 144 [.adr 5 0 0,.adr 6 0 0]]]),(5,.mix 1 [[.rptr (Mnd.cells true m_)]]),(6,.mix 1 [[.rptr (Mnd.cells true m_)]]),(7,.mix 5 [[.val (.int .i64 m_.f.s.n),.own 8 0 v6.length,.own 9 0 v7.length,.own 10 0 b8.length,.own 11 0 ((List.replicate v21.toNat ([]:List Int)).length)]]),(8,.row 1 (Is v6)),(9,.row 1 (Is v7)),(10,.row 1 (Is b8)),(11,.row 1 (Ls (List.replicate v21.toNat ([]:List Int))))],12⟩) (Wk.rP _ [(0,0),(1,1),(2,2),(3,3),(4,4),(5,5),(6,6),(7,7),(8,8),(9,9),(10,10),(11,11)] hP (by rfl) (by simp [hhOk,back,Cat.cells,Mnd.cells,UA,U1,IA,I1,LA,L1,BA,B1,EA,E1,E2,eB,eI,eL])) ?_
  refine Qf ?_
  replace h:=bind_some h
  obtain ⟨e52,he52,h52⟩:=h
  refine Qy he52 (fun s52:List (List Int) × Int=>⟨[(0,.adr 7 0 0),(1,.fn 120 [.adr 1 0 0,.adr 3 0 0,.adr 4 0 0]),(4,.val (.int .i64 v21)),(18,.val (.int .i64 ((List.replicate v21.toNat ([]:List Int)).length:Int))),(19,.val (.int .i64 s52.2))],[(0,.mix 5 [[.val (.int .i64 0),.val (.slice none 0 0),.val (.slice none 0 0),.val (.slice none 0 0),.val (.slice none 0 0)]]),(1,.mix 1 [[.own 2 0 v1.length]]),(2,.row 1 (Ls v1)),(3,.mix 1 [[.cmap .str (Msi v3)]]),(4,.mix 3 [[.rptr (Mnd.cells true m_),.rptr (Mnd.cells true m_),.fn 144 [.adr 5 0 0,.adr 6 0 0]]]),(5,.mix 1 [[.rptr (Mnd.cells true m_)]]),(6,.mix 1 [[.rptr (Mnd.cells true m_)]]),(7,.mix 5 [[.val (.int .i64 m_.f.s.n),.own 8 0 v6.length,.own 9 0 v7.length,.own 10 0 b8.length,.own 11 0 s52.1.length]]),(8,.row 1 (Is v6)),(9,.row 1 (Is v7)),(10,.row 1 (Is b8)),(11,.row 1 (Ls s52.1))],12⟩) (Wk.rP _ [(0,0),(1,1),(2,2),(3,3),(4,4),(5,5),(6,6),(7,7),(8,8),(9,9),(10,10),(11,11)] hP (by rfl) (by simp [hhOk,back,Cat.cells,Mnd.cells,UA,U1,IA,I1,LA,L1,BA,B1,EA,E1,E2,eB,eI,eL])) ?_
  intro k52 s52 c52 h hk52
  refine Q6 ?_
  refine QV [] mo (by rw [hN];decide) fun K hK=>?_
  simp [-Q0,-Q8,-Q3,-Q9,-Q4,eL,eI,Q1,Q5,Qc,Cat.cells,Mnd.cells]
  repeat with_reducible refine sdQ ?_
  refine hK _ ?_;clear hK K
  refine tn ?_
  refine Qa (st':=⟨[(0,.adr 7 0 0),(1,.fn 120 [.adr 1 0 0,.adr 3 0 0,.adr 4 0 0]),(4,.val (.int .i64 v21)),(18,.val (.int .i64 ((List.replicate v21.toNat ([]:List Int)).length:Int))),(19,.val (.int .i64 s52.2)),(20,.val (.bool (decide (s52.2<((List.replicate v21.toNat ([]:List Int)).length:Int)))))],[(0,.mix 5 [[.val (.int .i64 0),.val (.slice none 0 0),.val (.slice none 0 0),.val (.slice none 0 0),.val (.slice none 0 0)]]),(1,.mix 1 [[.own 2 0 v1.length]]),(2,.row 1 (Ls v1)),(3,.mix 1 [[.cmap .str (Msi v3)]]),(4,.mix 3 [[.rptr (Mnd.cells true m_),.rptr (Mnd.cells true m_),.fn 144 [.adr 5 0 0,.adr 6 0 0]]]),(5,.mix 1 [[.rptr (Mnd.cells true m_)]]),(6,.mix 1 [[.rptr (Mnd.cells true m_)]]),(7,.mix 5 [[.val (.int .i64 m_.f.s.n),.own 8 0 v6.length,.own 9 0 v7.length,.own 10 0 b8.length,.own 11 0 s52.1.length]]),(8,.row 1 (Is v6)),(9,.row 1 (Is v7)),(10,.row 1 (Is b8)),(11,.row 1 (Ls s52.1))],12⟩) (Wk.rP _ [(0,0),(1,1),(2,2),(3,3),(4,4),(5,5),(6,6),(7,7),(8,8),(9,9),(10,10),(11,11)] hP (by rfl) (by simp [hhOk,back,Cat.cells,Mnd.cells,UA,U1,IA,I1,LA,L1,BA,B1,EA,E1,E2,eB,eI,eL])) ?_
  refine Q6 ?_
  refine Qg rfl (fun g=>?_) fun g=>?_
  ·have g53:s52.2<((List.replicate v21.toNat ([]:List Int)).length:Int):=gQ
   clear g
   replace h:=if_l g53 h
   refine Qh ?_
   refine tn ?_
   refine Q6 ?_
   replace h:=bind_some h
   obtain ⟨e54,h,h54⟩:=h
   refine Qm (fun b54:List (List Int)=>⟨[(0,.adr 7 0 0),(1,.fn 120 [.adr 1 0 0,.adr 3 0 0,.adr 4 0 0]),(4,.val (.int .i64 v21)),(18,.val (.int .i64 ((List.replicate v21.toNat ([]:List Int)).length:Int))),(19,.val (.int .i64 s52.2))],[(0,.mix 5 [[.val (.int .i64 0),.val (.slice none 0 0),.val (.slice none 0 0),.val (.slice none 0 0),.val (.slice none 0 0)]]),(1,.mix 1 [[.own 2 0 v1.length]]),(2,.row 1 (Ls v1)),(3,.mix 1 [[.cmap .str (Msi v3)]]),(4,.mix 3 [[.rptr (Mnd.cells true m_),.rptr (Mnd.cells true m_),.fn 144 [.adr 5 0 0,.adr 6 0 0]]]),(5,.mix 1 [[.rptr (Mnd.cells true m_)]]),(6,.mix 1 [[.rptr (Mnd.cells true m_)]]),(7,.mix 5 [[.val (.int .i64 m_.f.s.n),.own 8 0 v6.length,.own 9 0 v7.length,.own 10 0 b8.length,.own 11 0 b54.length]]),(8,.row 1 (Is v6)),(9,.row 1 (Is v7)),(10,.row 1 (Is b8)),(11,.row 1 (Ls b54))],12⟩) (fun b54=>b54=e54) ?_ ?_
   ·refine Qf ?_
    refine Q6 ?_
    refine QV [] mo (by rw [hN];decide) fun K hK=>?_
    simp [-Q0,-Q8,-Q3,-Q9,-Q4,eL,eI,Q1,Q5,Qc,Cat.cells,Mnd.cells]
    repeat with_reducible refine sdQ ?_
    refine hK _ ?_;clear hK K
    refine tn ?_
    refine Qa (st':=⟨[(0,.adr 7 0 0),(1,.fn 120 [.adr 1 0 0,.adr 3 0 0,.adr 4 0 0]),(4,.val (.int .i64 v21)),(5,.val (.int .i64 s52.2)),(18,.val (.int .i64 ((List.replicate v21.toNat ([]:List Int)).length:Int))),(19,.val (.int .i64 s52.2))],[(0,.mix 5 [[.val (.int .i64 0),.val (.slice none 0 0),.val (.slice none 0 0),.val (.slice none 0 0),.val (.slice none 0 0)]]),(1,.mix 1 [[.own 2 0 v1.length]]),(2,.row 1 (Ls v1)),(3,.mix 1 [[.cmap .str (Msi v3)]]),(4,.mix 3 [[.rptr (Mnd.cells true m_),.rptr (Mnd.cells true m_),.fn 144 [.adr 5 0 0,.adr 6 0 0]]]),(5,.mix 1 [[.rptr (Mnd.cells true m_)]]),(6,.mix 1 [[.rptr (Mnd.cells true m_)]]),(7,.mix 5 [[.val (.int .i64 m_.f.s.n),.own 8 0 v6.length,.own 9 0 v7.length,.own 10 0 b8.length,.own 11 0 s52.1.length]]),(8,.row 1 (Is v6)),(9,.row 1 (Is v7)),(10,.row 1 (Is b8)),(11,.row 1 (Ls s52.1))],12⟩) (Wk.rP _ [(0,0),(1,1),(2,2),(3,3),(4,4),(5,5),(6,6),(7,7),(8,8),(9,9),(10,10),(11,11)] hP (by rfl) (by simp [hhOk,back,Cat.cells,Mnd.cells,UA,U1,IA,I1,LA,L1,BA,B1,EA,E1,E2,eB,eI,eL])) ?_
    refine Q6 ?_
    refine QV [] mo (by rw [hN];decide) fun K hK=>?_
    replace h:=Q7 h
    obtain ⟨a55,h⟩:=h
    replace h:=Q7 h
    obtain ⟨a56,h⟩:=h
    simp [-Q0,-Q8,-Q3,-Q9,-Q4,eL,eI,Q1,Q5,Qc,Cat.cells,Mnd.cells,at_L a56]
    repeat with_reducible refine sdQ ?_
    refine stoX_row (fz:=[]) [] tf_22 rfl (b:=.lst true 1 (Is (List.replicate v21.toNat 0))) (ds:=[12]) (es2:=Ls (s52.1.set s52.2.toNat (List.replicate v21.toNat 0))) rfl (by simp) (by first|(simp;done)|(simp;omega)|omega) (by simp) (by simp) (by simp) (by simp) Ls_st ?_
    simp [-Q0,-Q8,-Q3,-Q9,-Q4,eL,eI,Q1,Q5,Qc,Cat.cells,Mnd.cells,at_L a56]
    repeat with_reducible refine sdQ ?_
    refine hK _ ?_;clear hK K
    refine tn ?_
    refine Qa (st':=⟨[(0,.adr 7 0 0),(1,.fn 120 [.adr 1 0 0,.adr 3 0 0,.adr 4 0 0]),(4,.val (.int .i64 v21)),(5,.val (.int .i64 s52.2)),(18,.val (.int .i64 ((List.replicate v21.toNat ([]:List Int)).length:Int))),(19,.val (.int .i64 s52.2))],[(0,.mix 5 [[.val (.int .i64 0),.val (.slice none 0 0),.val (.slice none 0 0),.val (.slice none 0 0),.val (.slice none 0 0)]]),(1,.mix 1 [[.own 2 0 v1.length]]),(2,.row 1 (Ls v1)),(3,.mix 1 [[.cmap .str (Msi v3)]]),(4,.mix 3 [[.rptr (Mnd.cells true m_),.rptr (Mnd.cells true m_),.fn 144 [.adr 5 0 0,.adr 6 0 0]]]),(5,.mix 1 [[.rptr (Mnd.cells true m_)]]),(6,.mix 1 [[.rptr (Mnd.cells true m_)]]),(7,.mix 5 [[.val (.int .i64 m_.f.s.n),.own 8 0 v6.length,.own 9 0 v7.length,.own 10 0 b8.length,.own 11 0 ((s52.1.set s52.2.toNat (List.replicate v21.toNat 0)).length)]]),(8,.row 1 (Is v6)),(9,.row 1 (Is v7)),(10,.row 1 (Is b8)),(11,.row 1 (Ls (s52.1.set s52.2.toNat (List.replicate v21.toNat 0))))],12⟩) (Wk.rP _ [(0,0),(1,1),(2,2),(3,3),(4,4),(5,5),(6,6),(7,7),(8,8),(9,9),(10,10),(11,11)] hP (by rfl) (by simp [hhOk,back,Cat.cells,Mnd.cells,UA,U1,IA,I1,LA,L1,BA,B1,EA,E1,E2,eB,eI,eL])) ?_
    refine Q6 ?_
    refine QV [] mo (by rw [hN];decide) fun K hK=>?_
    replace h:=Q7 h
    obtain ⟨a57,h⟩:=h
    simp [-Q0,-Q8,-Q3,-Q9,-Q4,eL,eI,Q1,Q5,Qc,Cat.cells,Mnd.cells,at_L a57]
    repeat with_reducible refine sdQ ?_
    refine hK _ ?_;clear hK K
    refine tn ?_
    refine Qa (st':=⟨[(0,.adr 7 0 0),(1,.fn 120 [.adr 1 0 0,.adr 3 0 0,.adr 4 0 0]),(4,.val (.int .i64 v21)),(5,.val (.int .i64 s52.2)),(18,.val (.int .i64 ((List.replicate v21.toNat ([]:List Int)).length:Int))),(19,.val (.int .i64 s52.2)),(37,.val (.int .i64 ((rx (s52.1.set s52.2.toNat (List.replicate v21.toNat 0)) s52.2).length:Int))),(38,.val (.int .i64 0))],[(0,.mix 5 [[.val (.int .i64 0),.val (.slice none 0 0),.val (.slice none 0 0),.val (.slice none 0 0),.val (.slice none 0 0)]]),(1,.mix 1 [[.own 2 0 v1.length]]),(2,.row 1 (Ls v1)),(3,.mix 1 [[.cmap .str (Msi v3)]]),(4,.mix 3 [[.rptr (Mnd.cells true m_),.rptr (Mnd.cells true m_),.fn 144 [.adr 5 0 0,.adr 6 0 0]]]),(5,.mix 1 [[.rptr (Mnd.cells true m_)]]),(6,.mix 1 [[.rptr (Mnd.cells true m_)]]),(7,.mix 5 [[.val (.int .i64 m_.f.s.n),.own 8 0 v6.length,.own 9 0 v7.length,.own 10 0 b8.length,.own 11 0 ((s52.1.set s52.2.toNat (List.replicate v21.toNat 0)).length)]]),(8,.row 1 (Is v6)),(9,.row 1 (Is v7)),(10,.row 1 (Is b8)),(11,.row 1 (Ls (s52.1.set s52.2.toNat (List.replicate v21.toNat 0))))],12⟩) (Wk.rP _ [(0,0),(1,1),(2,2),(3,3),(4,4),(5,5),(6,6),(7,7),(8,8),(9,9),(10,10),(11,11)] hP (by rfl) (by simp [hhOk,back,Cat.cells,Mnd.cells,UA,U1,IA,I1,LA,L1,BA,B1,EA,E1,E2,eB,eI,eL])) ?_
    refine Qf ?_
    replace h:=bind_some h
    obtain ⟨e69,he69,h69⟩:=h
    refine Qy he69 (fun s69:List (List Int) × Int=>⟨[(0,.adr 7 0 0),(1,.fn 120 [.adr 1 0 0,.adr 3 0 0,.adr 4 0 0]),(4,.val (.int .i64 v21)),(5,.val (.int .i64 s52.2)),(18,.val (.int .i64 ((List.replicate v21.toNat ([]:List Int)).length:Int))),(19,.val (.int .i64 s52.2)),(37,.val (.int .i64 ((rx (s52.1.set s52.2.toNat (List.replicate v21.toNat 0)) s52.2).length:Int))),(38,.val (.int .i64 s69.2))],[(0,.mix 5 [[.val (.int .i64 0),.val (.slice none 0 0),.val (.slice none 0 0),.val (.slice none 0 0),.val (.slice none 0 0)]]),(1,.mix 1 [[.own 2 0 v1.length]]),(2,.row 1 (Ls v1)),(3,.mix 1 [[.cmap .str (Msi v3)]]),(4,.mix 3 [[.rptr (Mnd.cells true m_),.rptr (Mnd.cells true m_),.fn 144 [.adr 5 0 0,.adr 6 0 0]]]),(5,.mix 1 [[.rptr (Mnd.cells true m_)]]),(6,.mix 1 [[.rptr (Mnd.cells true m_)]]),(7,.mix 5 [[.val (.int .i64 m_.f.s.n),.own 8 0 v6.length,.own 9 0 v7.length,.own 10 0 b8.length,.own 11 0 s69.1.length]]),(8,.row 1 (Is v6)),(9,.row 1 (Is v7)),(10,.row 1 (Is b8)),(11,.row 1 (Ls s69.1))],12⟩) (Wk.rP _ [(0,0),(1,1),(2,2),(3,3),(4,4),(5,5),(6,6),(7,7),(8,8),(9,9),(10,10),(11,11)] hP (by rfl) (by simp [hhOk,back,Cat.cells,Mnd.cells,UA,U1,IA,I1,LA,L1,BA,B1,EA,E1,E2,eB,eI,eL])) ?_
    intro k69 s69 c69 h hk69
    refine Q6 ?_
    refine QV [] mo (by rw [hN];decide) fun K hK=>?_
    simp [-Q0,-Q8,-Q3,-Q9,-Q4,eL,eI,Q1,Q5,Qc,Cat.cells,Mnd.cells]
    repeat with_reducible refine sdQ ?_
    refine hK _ ?_;clear hK K
    refine tn ?_
    refine Qa (st':=⟨[(0,.adr 7 0 0),(1,.fn 120 [.adr 1 0 0,.adr 3 0 0,.adr 4 0 0]),(4,.val (.int .i64 v21)),(5,.val (.int .i64 s52.2)),(18,.val (.int .i64 ((List.replicate v21.toNat ([]:List Int)).length:Int))),(19,.val (.int .i64 s52.2)),(37,.val (.int .i64 ((rx (s52.1.set s52.2.toNat (List.replicate v21.toNat 0)) s52.2).length:Int))),(38,.val (.int .i64 s69.2)),(39,.val (.bool (decide (s69.2<((rx (s52.1.set s52.2.toNat (List.replicate v21.toNat 0)) s52.2).length:Int)))))],[(0,.mix 5 [[.val (.int .i64 0),.val (.slice none 0 0),.val (.slice none 0 0),.val (.slice none 0 0),.val (.slice none 0 0)]]),(1,.mix 1 [[.own 2 0 v1.length]]),(2,.row 1 (Ls v1)),(3,.mix 1 [[.cmap .str (Msi v3)]]),(4,.mix 3 [[.rptr (Mnd.cells true m_),.rptr (Mnd.cells true m_),.fn 144 [.adr 5 0 0,.adr 6 0 0]]]),(5,.mix 1 [[.rptr (Mnd.cells true m_)]]),(6,.mix 1 [[.rptr (Mnd.cells true m_)]]),(7,.mix 5 [[.val (.int .i64 m_.f.s.n),.own 8 0 v6.length,.own 9 0 v7.length,.own 10 0 b8.length,.own 11 0 s69.1.length]]),(8,.row 1 (Is v6)),(9,.row 1 (Is v7)),(10,.row 1 (Is b8)),(11,.row 1 (Ls s69.1))],12⟩) (Wk.rP _ [(0,0),(1,1),(2,2),(3,3),(4,4),(5,5),(6,6),(7,7),(8,8),(9,9),(10,10),(11,11)] hP (by rfl) (by simp [hhOk,back,Cat.cells,Mnd.cells,UA,U1,IA,I1,LA,L1,BA,B1,EA,E1,E2,eB,eI,eL])) ?_
    refine Q6 ?_
    refine Qg rfl (fun g=>?_) fun g=>?_
    ·have g70:s69.2<((rx (s52.1.set s52.2.toNat (List.replicate v21.toNat 0)) s52.2).length:Int):=gQ
     clear g
     replace h:=if_l g70 h
     refine Qh ?_
     refine tn ?_
     refine Q6 ?_
     replace h:=bind_some h
     obtain ⟨e71,h,h71⟩:=h
     refine Qm (fun b71:List (List Int)=>⟨[(0,.adr 7 0 0),(1,.fn 120 [.adr 1 0 0,.adr 3 0 0,.adr 4 0 0]),(4,.val (.int .i64 v21)),(5,.val (.int .i64 s52.2)),(18,.val (.int .i64 ((List.replicate v21.toNat ([]:List Int)).length:Int))),(19,.val (.int .i64 s52.2)),(37,.val (.int .i64 ((rx (s52.1.set s52.2.toNat (List.replicate v21.toNat 0)) s52.2).length:Int))),(38,.val (.int .i64 s69.2))],[(0,.mix 5 [[.val (.int .i64 0),.val (.slice none 0 0),.val (.slice none 0 0),.val (.slice none 0 0),.val (.slice none 0 0)]]),(1,.mix 1 [[.own 2 0 v1.length]]),(2,.row 1 (Ls v1)),(3,.mix 1 [[.cmap .str (Msi v3)]]),(4,.mix 3 [[.rptr (Mnd.cells true m_),.rptr (Mnd.cells true m_),.fn 144 [.adr 5 0 0,.adr 6 0 0]]]),(5,.mix 1 [[.rptr (Mnd.cells true m_)]]),(6,.mix 1 [[.rptr (Mnd.cells true m_)]]),(7,.mix 5 [[.val (.int .i64 m_.f.s.n),.own 8 0 v6.length,.own 9 0 v7.length,.own 10 0 b8.length,.own 11 0 b71.length]]),(8,.row 1 (Is v6)),(9,.row 1 (Is v7)),(10,.row 1 (Is b8)),(11,.row 1 (Ls b71))],12⟩) (fun b71=>b71=e71) ?_ ?_
     ·refine Qf ?_
      refine Q6 ?_
      refine QV [] mo (by rw [hN];decide) fun K hK=>?_
      simp [-Q0,-Q8,-Q3,-Q9,-Q4,eL,eI,Q1,Q5,Qc,Cat.cells,Mnd.cells]
      repeat with_reducible refine sdQ ?_
      refine hK _ ?_;clear hK K
      refine tn ?_
      refine Qa (st':=⟨[(0,.adr 7 0 0),(1,.fn 120 [.adr 1 0 0,.adr 3 0 0,.adr 4 0 0]),(4,.val (.int .i64 v21)),(5,.val (.int .i64 s52.2)),(6,.val (.int .i64 s69.2)),(18,.val (.int .i64 ((List.replicate v21.toNat ([]:List Int)).length:Int))),(19,.val (.int .i64 s52.2)),(37,.val (.int .i64 ((rx (s52.1.set s52.2.toNat (List.replicate v21.toNat 0)) s52.2).length:Int))),(38,.val (.int .i64 s69.2))],[(0,.mix 5 [[.val (.int .i64 0),.val (.slice none 0 0),.val (.slice none 0 0),.val (.slice none 0 0),.val (.slice none 0 0)]]),(1,.mix 1 [[.own 2 0 v1.length]]),(2,.row 1 (Ls v1)),(3,.mix 1 [[.cmap .str (Msi v3)]]),(4,.mix 3 [[.rptr (Mnd.cells true m_),.rptr (Mnd.cells true m_),.fn 144 [.adr 5 0 0,.adr 6 0 0]]]),(5,.mix 1 [[.rptr (Mnd.cells true m_)]]),(6,.mix 1 [[.rptr (Mnd.cells true m_)]]),(7,.mix 5 [[.val (.int .i64 m_.f.s.n),.own 8 0 v6.length,.own 9 0 v7.length,.own 10 0 b8.length,.own 11 0 s69.1.length]]),(8,.row 1 (Is v6)),(9,.row 1 (Is v7)),(10,.row 1 (Is b8)),(11,.row 1 (Ls s69.1))],12⟩) (Wk.rP _ [(0,0),(1,1),(2,2),(3,3),(4,4),(5,5),(6,6),(7,7),(8,8),(9,9),(10,10),(11,11)] hP (by rfl) (by simp [hhOk,back,Cat.cells,Mnd.cells,UA,U1,IA,I1,LA,L1,BA,B1,EA,E1,E2,eB,eI,eL])) ?_
      refine Q6 ?_
      refine QV [] mo (by rw [hN];decide) fun K hK=>?_
      replace h:=Q7 h
      obtain ⟨a72,h⟩:=h
      replace h:=Q7 h
      obtain ⟨a73,h⟩:=h
      simp [-Q0,-Q8,-Q3,-Q9,-Q4,eL,eI,Q1,Q5,Qc,Cat.cells,Mnd.cells,at_L a72,at_I a73]
      repeat with_reducible refine sdQ ?_
      refine hK _ ?_;clear hK K
      refine tn ?_
      refine Qa (st':=⟨[(0,.adr 7 0 0),(1,.fn 120 [.adr 1 0 0,.adr 3 0 0,.adr 4 0 0]),(4,.val (.int .i64 v21)),(5,.val (.int .i64 s52.2)),(6,.val (.int .i64 s69.2)),(18,.val (.int .i64 ((List.replicate v21.toNat ([]:List Int)).length:Int))),(19,.val (.int .i64 s52.2)),(37,.val (.int .i64 ((rx (s52.1.set s52.2.toNat (List.replicate v21.toNat 0)) s52.2).length:Int))),(38,.val (.int .i64 s69.2))],[(0,.mix 5 [[.val (.int .i64 0),.val (.slice none 0 0),.val (.slice none 0 0),.val (.slice none 0 0),.val (.slice none 0 0)]]),(1,.mix 1 [[.own 2 0 v1.length]]),(2,.row 1 (Ls v1)),(3,.mix 1 [[.cmap .str (Msi v3)]]),(4,.mix 3 [[.rptr (Mnd.cells true m_),.rptr (Mnd.cells true m_),.fn 144 [.adr 5 0 0,.adr 6 0 0]]]),(5,.mix 1 [[.rptr (Mnd.cells true m_)]]),(6,.mix 1 [[.rptr (Mnd.cells true m_)]]),(7,.mix 5 [[.val (.int .i64 m_.f.s.n),.own 8 0 v6.length,.own 9 0 v7.length,.own 10 0 b8.length,.own 11 0 ((s69.1.set s52.2.toNat ((rx s69.1 s52.2).set s69.2.toNat (-1))).length)]]),(8,.row 1 (Is v6)),(9,.row 1 (Is v7)),(10,.row 1 (Is b8)),(11,.row 1 (Ls (s69.1.set s52.2.toNat ((rx s69.1 s52.2).set s69.2.toNat (-1)))))],12⟩) (Wk.rP _ [(0,0),(1,1),(2,2),(3,3),(4,4),(5,5),(6,6),(7,7),(8,8),(9,9),(10,10),(11,11)] hP (by rfl) (by simp [hhOk,back,Cat.cells,Mnd.cells,UA,U1,IA,I1,LA,L1,BA,B1,EA,E1,E2,eB,eI,eL])) ?_
      refine Q6 ?_
      refine QV [] mo (by rw [hN];decide) fun K hK=>?_
      replace h:=Q7 h
      obtain ⟨a74,h⟩:=h
      replace h:=Q7 h
      obtain ⟨a75,h⟩:=h
      simp [-Q0,-Q8,-Q3,-Q9,-Q4,eL,eI,Q1,Q5,Qc,Cat.cells,Mnd.cells,at_I a74,at_I a75]
      repeat with_reducible refine sdQ ?_
      refine hK _ ?_;clear hK K
      refine tn ?_
      refine Qa (st':=⟨[(0,.adr 7 0 0),(1,.fn 120 [.adr 1 0 0,.adr 3 0 0,.adr 4 0 0]),(4,.val (.int .i64 v21)),(5,.val (.int .i64 s52.2)),(6,.val (.int .i64 s69.2)),(18,.val (.int .i64 ((List.replicate v21.toNat ([]:List Int)).length:Int))),(19,.val (.int .i64 s52.2)),(37,.val (.int .i64 ((rx (s52.1.set s52.2.toNat (List.replicate v21.toNat 0)) s52.2).length:Int))),(38,.val (.int .i64 s69.2)),(64,.val (.bool ((ix v7 s52.2) == (ix v6 s69.2))))],[(0,.mix 5 [[.val (.int .i64 0),.val (.slice none 0 0),.val (.slice none 0 0),.val (.slice none 0 0),.val (.slice none 0 0)]]),(1,.mix 1 [[.own 2 0 v1.length]]),(2,.row 1 (Ls v1)),(3,.mix 1 [[.cmap .str (Msi v3)]]),(4,.mix 3 [[.rptr (Mnd.cells true m_),.rptr (Mnd.cells true m_),.fn 144 [.adr 5 0 0,.adr 6 0 0]]]),(5,.mix 1 [[.rptr (Mnd.cells true m_)]]),(6,.mix 1 [[.rptr (Mnd.cells true m_)]]),(7,.mix 5 [[.val (.int .i64 m_.f.s.n),.own 8 0 v6.length,.own 9 0 v7.length,.own 10 0 b8.length,.own 11 0 ((s69.1.set s52.2.toNat ((rx s69.1 s52.2).set s69.2.toNat (-1))).length)]]),(8,.row 1 (Is v6)),(9,.row 1 (Is v7)),(10,.row 1 (Is b8)),(11,.row 1 (Ls (s69.1.set s52.2.toNat ((rx s69.1 s52.2).set s69.2.toNat (-1)))))],12⟩) (Wk.rP _ [(0,0),(1,1),(2,2),(3,3),(4,4),(5,5),(6,6),(7,7),(8,8),(9,9),(10,10),(11,11)] hP (by rfl) (by simp [hhOk,back,Cat.cells,Mnd.cells,UA,U1,IA,I1,LA,L1,BA,B1,EA,E1,E2,eB,eI,eL])) ?_
      refine Qg rfl (fun g=>?_) fun g=>?_
      ·have g76:(ix v7 s52.2)=(ix v6 s69.2):=gQ
       clear g
       replace h:=if_l g76 h
       refine QV [] mo (by rw [hN];decide) fun K hK=>?_
       replace h:=Q7 h
       obtain ⟨a77,h⟩:=h
       simp [-Q0,-Q8,-Q3,-Q9,-Q4,eL,eI,Q1,Q5,Qc,Cat.cells,Mnd.cells,at_L a77]
       repeat with_reducible refine sdQ ?_
       replace h:=bind_some h
       obtain ⟨v78,hv78,h⟩:=h
       refine Q1h (fz:=[]) (Q27 _ _ _ _ _ v78 hv78) (.cons .val (.cons .val (.cons (.field rfl (by simp [Cat.cells,Mnd.cells]) (.cons (.whole (by simp) (by simp) (by simp)) .nil)) (.cons (.field rfl (by simp [Cat.cells,Mnd.cells]) (.cons .cmap .nil)) (.cons (.field rfl (by simp [Cat.cells,Mnd.cells]) (.cons (.preT (by simp [Cat.cells,Mnd.cells])) (.cons (.preT (by simp [Cat.cells,Mnd.cells])) (.cons (.fnL (by simp) (.cons (.field rfl (by simp [Cat.cells,Mnd.cells]) (.cons (.preT (by simp [Cat.cells,Mnd.cells])) .nil)) (.cons (.field rfl (by simp [Cat.cells,Mnd.cells]) (.cons (.preT (by simp [Cat.cells,Mnd.cells])) .nil)) .nil))) .nil)))) .nil))))) ?_
       replace h:=Q7 h
       obtain ⟨a79,h⟩:=h
       simp [-Q0,-Q8,-Q3,-Q9,-Q4,unk,unA,unE,unT,unC,flat,eL,eI,Q1,Q5,Qc,Cat.cells,Mnd.cells,at_L a77,at_I a79]
       repeat with_reducible refine sdQ ?_
       refine hK _ ?_;clear hK K
       refine bn ?_
       exact jn (b:=(s69.1.set s52.2.toNat ((rx s69.1 s52.2).set s69.2.toNat (-1))).set s52.2.toNat ((rx (s69.1.set s52.2.toNat ((rx s69.1 s52.2).set s69.2.toNat (-1))) s52.2).set s69.2.toNat v78)) (Option.some.inj h) (Wk.rP _ [(0,0),(1,1),(2,2),(3,3),(4,4),(5,5),(6,6),(7,7),(8,8),(9,9),(10,10),(11,11)] hP (by rfl) (by simp [hhOk,back,Cat.cells,Mnd.cells,UA,U1,IA,I1,LA,L1,BA,B1,EA,E1,E2,eB,eI,eL]))
      have g76:¬ ((ix v7 s52.2)=(ix v6 s69.2)):=gQ
      clear g
      replace h:=if_r g76 h
      refine Qh ?_
      refine bn ?_
      exact jn (b:=s69.1.set s52.2.toNat ((rx s69.1 s52.2).set s69.2.toNat (-1))) (Option.some.inj h) (Wk.rP _ [(0,0),(1,1),(2,2),(3,3),(4,4),(5,5),(6,6),(7,7),(8,8),(9,9),(10,10),(11,11)] hP (by rfl) (by simp [hhOk,back,Cat.cells,Mnd.cells,UA,U1,IA,I1,LA,L1,BA,B1,EA,E1,E2,eB,eI,eL]))
     intro b71 hb71
     have h:=h71
     rw [← hb71] at h
     clear h71
     try dsimp only at h
     refine QV [] mo (by rw [hN];decide) fun K hK=>?_
     replace h:=Q7 h
     obtain ⟨a80,h⟩:=h
     simp [-Q0,-Q8,-Q3,-Q9,-Q4,eL,eI,Q1,Q5,Qc,Cat.cells,Mnd.cells,Qw a80]
     repeat with_reducible refine sdQ ?_
     refine hK _ ?_;clear hK K
     cases h
     exact rn (s':=(b71,s69.2+1)) hk69 (Wk.rP _ [(0,0),(1,1),(2,2),(3,3),(4,4),(5,5),(6,6),(7,7),(8,8),(9,9),(10,10),(11,11)] hP (by rfl) (by simp [hhOk,back,Cat.cells,Mnd.cells,UA,U1,IA,I1,LA,L1,BA,B1,EA,E1,E2,eB,eI,eL]))
    have g70:¬ (s69.2<((rx (s52.1.set s52.2.toNat (List.replicate v21.toNat 0)) s52.2).length:Int)):=gQ
    clear g
    replace h:=if_r g70 h
    refine Qp ?_
    refine tx ?_
    refine lx ?_
    refine bh ?_
    refine bn ?_
    cases h
    have q:_=e69:=hk69
    have h:=h69
    rw [← q] at h
    clear q
    try dsimp only at h
    exact jn (b:=s69.1) (Option.some.inj h) (Wk.rP _ [(0,0),(1,1),(2,2),(3,3),(4,4),(5,5),(6,6),(7,7),(8,8),(9,9),(10,10),(11,11)] hP (by rfl) (by simp [hhOk,back,Cat.cells,Mnd.cells,UA,U1,IA,I1,LA,L1,BA,B1,EA,E1,E2,eB,eI,eL]))
   intro b54 hb54
   have h:=h54
   rw [← hb54] at h
   clear h54
   try dsimp only at h
   refine QV [] mo (by rw [hN];decide) fun K hK=>?_
   replace h:=Q7 h
   obtain ⟨a81,h⟩:=h
   simp [-Q0,-Q8,-Q3,-Q9,-Q4,eL,eI,Q1,Q5,Qc,Cat.cells,Mnd.cells,Qw a81]
   repeat with_reducible refine sdQ ?_
   refine hK _ ?_;clear hK K
   cases h
   exact rn (s':=(b54,s52.2+1)) hk52 (Wk.rP _ [(0,0),(1,1),(2,2),(3,3),(4,4),(5,5),(6,6),(7,7),(8,8),(9,9),(10,10),(11,11)] hP (by rfl) (by simp [hhOk,back,Cat.cells,Mnd.cells,UA,U1,IA,I1,LA,L1,BA,B1,EA,E1,E2,eB,eI,eL]))
  have g53:¬ (s52.2<((List.replicate v21.toNat ([]:List Int)).length:Int)):=gQ
  clear g
  replace h:=if_r g53 h
  refine Qp ?_
  refine tx ?_
  refine lx ?_
  refine bh ?_
  cases h
  have q:_=e52:=hk52
  have h:=h52
  rw [← q] at h
  clear q
  try dsimp only at h
  cases h
  first|refine iw_r (st':=⟨[],[(0,.mix 5 [[.val (.int .i64 0),.val (.slice none 0 0),.val (.slice none 0 0),.val (.slice none 0 0),.val (.slice none 0 0)]]),(1,.mix 1 [[.own 2 0 v1.length]]),(2,.row 1 (Ls v1)),(3,.mix 1 [[.cmap .str (Msi v3)]]),(4,.mix 3 [[.rptr (Mnd.cells true m_),.rptr (Mnd.cells true m_),.fn 144 [.adr 5 0 0,.adr 6 0 0]]]),(5,.mix 1 [[.rptr (Mnd.cells true m_)]]),(6,.mix 1 [[.rptr (Mnd.cells true m_)]]),(7,.mix 5 [[.val (.int .i64 m_.f.s.n),.own 8 0 v6.length,.own 9 0 v7.length,.own 10 0 b8.length,.own 11 0 s52.1.length]]),(8,.row 1 (Is v6)),(9,.row 1 (Is v7)),(10,.row 1 (Is b8)),(11,.row 1 (Ls s52.1))],12⟩) ?_ ?_|refine iw_n (st':=⟨[],[(0,.mix 5 [[.val (.int .i64 0),.val (.slice none 0 0),.val (.slice none 0 0),.val (.slice none 0 0),.val (.slice none 0 0)]]),(1,.mix 1 [[.own 2 0 v1.length]]),(2,.row 1 (Ls v1)),(3,.mix 1 [[.cmap .str (Msi v3)]]),(4,.mix 3 [[.rptr (Mnd.cells true m_),.rptr (Mnd.cells true m_),.fn 144 [.adr 5 0 0,.adr 6 0 0]]]),(5,.mix 1 [[.rptr (Mnd.cells true m_)]]),(6,.mix 1 [[.rptr (Mnd.cells true m_)]]),(7,.mix 5 [[.val (.int .i64 m_.f.s.n),.own 8 0 v6.length,.own 9 0 v7.length,.own 10 0 b8.length,.own 11 0 s52.1.length]]),(8,.row 1 (Is v6)),(9,.row 1 (Is v7)),(10,.row 1 (Is b8)),(11,.row 1 (Ls s52.1))],12⟩) ?_ ?_
  ·exact Wk.rP _ [(0,0),(1,1),(2,2),(3,3),(4,4),(5,5),(6,6),(7,7),(8,8),(9,9),(10,10),(11,11)] hP (by rfl) (by simp [hhOk,back,Cat.cells,Mnd.cells,UA,U1,IA,I1,LA,L1,BA,B1,EA,E1,E2,eB,eI,eL])
  exact ⟨by simp [Q1D],by simp,by simp [Cat.cells,Mnd.cells]⟩
 simp [-Q0,-Q8,-Q3,-Q9,-Q4,unk,unA,unE,unT,unC,flat,eL,eI,Q1,Q5,Qc,Cat.cells,Mnd.cells]
 repeat with_reducible refine sdQ ?_
 refine hK _ ?_;clear hK K
 refine tn ?_
 refine Qa (st':=⟨[(2,.adr 0 0 0),(5,.adr 1 0 0),(8,.adr 3 0 0)],[(0,.mix 5 [[.val (.int .i64 0),.val (.slice none 0 0),.val (.slice none 0 0),.val (.slice none 0 0),.val (.slice none 0 0)]]),(1,.mix 1 [[.own 2 0 v1.length]]),(2,.row 1 (Ls v1)),(3,.mix 5 [[.val (.int .i64 m_.f.s.n),.own 4 0 v6.length,.own 5 0 v7.length,.own 6 0 b8.length,.own 7 0 v82.length]]),(4,.row 1 (Is v6)),(5,.row 1 (Is v7)),(6,.row 1 (Is b8)),(7,.row 1 (Ls v82))],8⟩) (Wk.r1 [(0,0),(1,1),(2,2),(7,3),(8,4),(9,5),(10,6),(11,7)] (by simp [hP,hhOk,back,Cat.cells,Mnd.cells,UA,U1,IA,I1,LA,L1,BA,B1,EA,E1,E2,eB,eI,eL])) ?_
 refine Q6 ?_
 refine w_runXD [] [2] mo (by rw [hN];decide) (by rfl) fun K hK=>?_
 simp [-Q0,-Q8,-Q3,-Q9,-Q4,eL,eI,Q1,Q5,Qc,Cat.cells,Mnd.cells]
 repeat with_reducible refine sdQ ?_
 refine hK _ ?_;clear hK K
 refine tn ?_
 refine Qa (st':=⟨[(2,.adr 0 0 0),(3,.own 5 0 v1.length),(4,.val (.bool true))],[(0,.mix 5 [[.val (.int .i64 m_.f.s.n),.own 1 0 v6.length,.own 2 0 v7.length,.own 3 0 b8.length,.own 4 0 v82.length]]),(1,.row 1 (Is v6)),(2,.row 1 (Is v7)),(3,.row 1 (Is b8)),(4,.row 1 (Ls v82)),(5,.row 1 (Ls v1))],6⟩) (Wk.r1 [(0,0),(4,1),(5,2),(6,3),(7,4),(2,5)] (by simp [hP,hhOk,back,Cat.cells,Mnd.cells,UA,U1,IA,I1,LA,L1,BA,B1,EA,E1,E2,eB,eI,eL])) ?_
 refine Qk ?_
 have hr:=Option.some.inj h
 rw [← hr]
 refine ⟨_,(.cell Q6q rfl rfl rfl (by simp) (by simp) (.tmp (.tmp .nil))),?_⟩
 refine ⟨(.agg rfl (.one rfl rfl (.one rfl rfl .nil))),[.val (.int .i64 m_.f.s.n),.lst true 1 (Is v6),.lst true 1 (Is v7),.lst true 1 (Is b8),.lst true 1 (Ls v82),.lst true 1 (Ls v1),.val (.bool true)],[1,2,3,4,5],by simp [Cat.cells,Mnd.cells,UA,U1,IA,I1,LA,L1,BA,B1,EA,E1,E2,eB,eI,eL],by simp,(UpL.refl _)⟩
end Go.Vc.T
namespace Go.Vc.T
open Go Go.Vc Go.Proofs
noncomputable def Q1x (m_:Mnd):Option (Cat × List (List Int) × Int) :=
 (Q1e m_).bind fun v1 =>
 if ¬ (v1=true) then
  some ((⟨0,[],[],[],[]⟩:Cat),[],1)
 else
  (Q1f m_).bind fun v3 =>
  if ¬ (v3.2.2=true) then
   some ((⟨0,[],[],[],[]⟩:Cat),[],3)
  else
   some (v3.1,v3.2.1,0)
theorem Q5s (m_:Mnd) (r:Cat × List (List Int) × Int) (h:Q1x m_=some r):Contract Tryz.prog 51 [.rptr (m_.cells true)] (.tup [.agg (r.1.cells true),.lst true 1 (Ls r.2.1),.val (.int .i64 r.2.2)]):=by
 refine Qi (rvs:=[.cell 2 31,.tmp 3,.tmp 4]) (rs:=[.agg (r.1.cells true),.lst true 1 (Ls r.2.1),.val (.int .i64 r.2.2)]) Tryz.func51 rfl rfl rfl rfl (by simp [Tryz.f51]) fun F hN hP=>?_
 unfold Q1x at h
 refine Q6 ?_
 refine runQ hN fun K hK=>?_
 simp [-Q0,-Q8,-Q3,-Q9,-Q4,eL,eI,Q1,Q5,Qc,Cat.cells,Mnd.cells]
 repeat with_reducible refine sdQ ?_
 refine hK _ ?_;clear hK K
 refine tn ?_
 refine Qa (st':=⟨[(0,.rptr (Mnd.cells true m_)),(2,.adr 0 0 0)],[(0,.mix 5 [[.val (.int .i64 0),.val (.slice none 0 0),.val (.slice none 0 0),.val (.slice none 0 0),.val (.slice none 0 0)]])],1⟩) (Wk.r1 [(0,0)] (by simp [hP,hhOk,back,Cat.cells,Mnd.cells,UA,U1,IA,I1,LA,L1,BA,B1,EA,E1,E2,eB,eI,eL])) ?_
 refine Q6 ?_
 refine Q6 ?_
 refine runQ hN fun K hK=>?_
 simp [-Q0,-Q8,-Q3,-Q9,-Q4,eL,eI,Q1,Q5,Qc,Cat.cells,Mnd.cells]
 repeat with_reducible refine sdQ ?_
 replace h:=bind_some h
 obtain ⟨v1,hv1,h⟩:=h
 refine Q2 (Q4t _ v1 hv1) (.cons (.preT (by simp [Mnd.cells])) .nil) ?_
 simp [-Q0,-Q8,-Q3,-Q9,-Q4,unk,unA,unE,unT,unC,flat,eL,eI,Q1,Q5,Qc,Cat.cells,Mnd.cells]
 repeat with_reducible refine sdQ ?_
 refine hK _ ?_;clear hK K
 refine tn ?_
 refine Qa (st':=⟨[(0,.rptr (Mnd.cells true m_)),(2,.adr 0 0 0),(10,.val (.bool (!v1)))],[(0,.mix 5 [[.val (.int .i64 0),.val (.slice none 0 0),.val (.slice none 0 0),.val (.slice none 0 0),.val (.slice none 0 0)]])],1⟩) (Wk.r1 [(0,0)] (by simp [hP,hhOk,back,Cat.cells,Mnd.cells,UA,U1,IA,I1,LA,L1,BA,B1,EA,E1,E2,eB,eI,eL])) ?_
 refine Qg rfl (fun g=>?_) fun g=>?_
 ·have g2:¬ (v1=true):=gQ
  clear g
  replace h:=if_l g2 h
  refine Q6 ?_
  refine runQ hN fun K hK=>?_
  simp [-Q0,-Q8,-Q3,-Q9,-Q4,eL,eI,Q1,Q5,Qc,Cat.cells,Mnd.cells]
  repeat with_reducible refine sdQ ?_
  refine hK _ ?_;clear hK K
  refine tn ?_
  refine Qa (st':=⟨[(2,.adr 0 0 0),(3,.val (.slice none 0 0)),(4,.val (.int .i64 1))],[(0,.mix 5 [[.val (.int .i64 0),.val (.slice none 0 0),.val (.slice none 0 0),.val (.slice none 0 0),.val (.slice none 0 0)]])],1⟩) (Wk.r1 [(0,0)] (by simp [hP,hhOk,back,Cat.cells,Mnd.cells,UA,U1,IA,I1,LA,L1,BA,B1,EA,E1,E2,eB,eI,eL])) ?_
  refine Qk ?_
  refine tr ?_
  have hr:=Option.some.inj h
  rw [← hr]
  refine ⟨_,(.cell Q6q rfl rfl rfl (by simp) (by simp) (.tmp (.tmp .nil))),?_⟩
  refine ⟨(.agg rfl (.one rfl rfl (.one rfl rfl .nil))),[.val (.int .i64 0),.val (.slice none 0 0),.val (.slice none 0 0),.val (.slice none 0 0),.val (.slice none 0 0),.val (.slice none 0 0),.val (.int .i64 1)],[],by simp [Cat.cells,Mnd.cells,UA,U1,IA,I1,LA,L1,BA,B1,EA,E1,E2,eB,eI,eL],by simp,(.cons .refl (.cons .nil (.cons .nil (.cons .nil (.cons .nil (.cons .nil (.cons .refl .nil)))))))⟩
 have g2:¬ (¬ (v1=true)):=gQ
 clear g
 replace h:=if_r g2 h
 refine Qh ?_
 refine tn ?_
 refine Q6 ?_
 refine runQ hN fun K hK=>?_
 simp [-Q0,-Q8,-Q3,-Q9,-Q4,eL,eI,Q1,Q5,Qc,Cat.cells,Mnd.cells]
 repeat with_reducible refine sdQ ?_
 replace h:=bind_some h
 obtain ⟨v3,hv3,h⟩:=h
 refine Q2 (Q4u _ v3 hv3) (.cons (.preT (by simp [Cat.cells,Mnd.cells])) .nil) ?_
 simp [-Q0,-Q8,-Q3,-Q9,-Q4,unk,unA,unE,unT,unC,flat,eL,eI,Q1,Q5,Qc,Cat.cells,Mnd.cells]
 repeat with_reducible refine sdQ ?_
 refine hK _ ?_;clear hK K
 refine tn ?_
 refine Qa (st':=⟨[(2,.adr 0 0 0),(5,.adr 1 0 0),(6,.own 6 0 v3.2.1.length),(7,.val (.bool v3.2.2))],[(0,.mix 5 [[.val (.int .i64 0),.val (.slice none 0 0),.val (.slice none 0 0),.val (.slice none 0 0),.val (.slice none 0 0)]]),(1,.mix 5 [[.val (.int .i64 v3.1.n),.own 2 0 v3.1.fr.length,.own 3 0 v3.1.to.length,.own 4 0 v3.1.id.length,.own 5 0 v3.1.cs.length]]),(2,.row 1 (Is v3.1.fr)),(3,.row 1 (Is v3.1.to)),(4,.row 1 (Is v3.1.id)),(5,.row 1 (Ls v3.1.cs)),(6,.row 1 (Ls v3.2.1))],7⟩) (Wk.r1 [(0,0),(8,1),(2,2),(3,3),(4,4),(5,5),(6,6)] (by simp [hP,hhOk,back,Cat.cells,Mnd.cells,UA,U1,IA,I1,LA,L1,BA,B1,EA,E1,E2,eB,eI,eL])) ?_
 refine Q6 ?_
 refine Q6 ?_
 refine runQ hN fun K hK=>?_
 simp [-Q0,-Q8,-Q3,-Q9,-Q4,eL,eI,Q1,Q5,Qc,Cat.cells,Mnd.cells]
 repeat with_reducible refine sdQ ?_
 refine hK _ ?_;clear hK K
 refine tn ?_
 refine Qa (st':=⟨[(2,.adr 0 0 0),(5,.adr 1 0 0),(6,.own 6 0 v3.2.1.length),(19,.val (.bool (!v3.2.2)))],[(0,.mix 5 [[.val (.int .i64 0),.val (.slice none 0 0),.val (.slice none 0 0),.val (.slice none 0 0),.val (.slice none 0 0)]]),(1,.mix 5 [[.val (.int .i64 v3.1.n),.own 2 0 v3.1.fr.length,.own 3 0 v3.1.to.length,.own 4 0 v3.1.id.length,.own 5 0 v3.1.cs.length]]),(2,.row 1 (Is v3.1.fr)),(3,.row 1 (Is v3.1.to)),(4,.row 1 (Is v3.1.id)),(5,.row 1 (Ls v3.1.cs)),(6,.row 1 (Ls v3.2.1))],7⟩) (Wk.r1 [(0,0),(1,1),(2,2),(3,3),(4,4),(5,5),(6,6)] (by simp [hP,hhOk,back,Cat.cells,Mnd.cells,UA,U1,IA,I1,LA,L1,BA,B1,EA,E1,E2,eB,eI,eL])) ?_
 refine Qg rfl (fun g=>?_) fun g=>?_
 ·have g4:¬ (v3.2.2=true):=gQ
  clear g
  replace h:=if_l g4 h
  refine Q6 ?_
  refine runQ hN fun K hK=>?_
  simp [-Q0,-Q8,-Q3,-Q9,-Q4,eL,eI,Q1,Q5,Qc,Cat.cells,Mnd.cells]
  repeat with_reducible refine sdQ ?_
  refine hK _ ?_;clear hK K
  refine tn ?_
  refine Qa (st':=⟨[(2,.adr 0 0 0),(3,.val (.slice none 0 0)),(4,.val (.int .i64 3))],[(0,.mix 5 [[.val (.int .i64 0),.val (.slice none 0 0),.val (.slice none 0 0),.val (.slice none 0 0),.val (.slice none 0 0)]])],1⟩) (Wk.r1 [(0,0)] (by simp [hP,hhOk,back,Cat.cells,Mnd.cells,UA,U1,IA,I1,LA,L1,BA,B1,EA,E1,E2,eB,eI,eL])) ?_
  refine Qk ?_
  refine tr ?_
  have hr:=Option.some.inj h
  rw [← hr]
  refine ⟨_,(.cell Q6q rfl rfl rfl (by simp) (by simp) (.tmp (.tmp .nil))),?_⟩
  refine ⟨(.agg rfl (.one rfl rfl (.one rfl rfl .nil))),[.val (.int .i64 0),.val (.slice none 0 0),.val (.slice none 0 0),.val (.slice none 0 0),.val (.slice none 0 0),.val (.slice none 0 0),.val (.int .i64 3)],[],by simp [Cat.cells,Mnd.cells,UA,U1,IA,I1,LA,L1,BA,B1,EA,E1,E2,eB,eI,eL],by simp,(.cons .refl (.cons .nil (.cons .nil (.cons .nil (.cons .nil (.cons .nil (.cons .refl .nil)))))))⟩
 have g4:¬ (¬ (v3.2.2=true)):=gQ
 clear g
 replace h:=if_r g4 h
 refine Qh ?_
 refine tn ?_
 refine Q6 ?_
 refine runQ hN fun K hK=>?_
 simp [-Q0,-Q8,-Q3,-Q9,-Q4,eL,eI,Q1,Q5,Qc,Cat.cells,Mnd.cells]
 repeat with_reducible refine sdQ ?_
 refine hK _ ?_;clear hK K
 refine tn ?_
 refine Qa (st':=⟨[(2,.adr 0 0 0),(3,.own 5 0 v3.2.1.length),(4,.val (.int .i64 0))],[(0,.mix 5 [[.val (.int .i64 v3.1.n),.own 1 0 v3.1.fr.length,.own 2 0 v3.1.to.length,.own 3 0 v3.1.id.length,.own 4 0 v3.1.cs.length]]),(1,.row 1 (Is v3.1.fr)),(2,.row 1 (Is v3.1.to)),(3,.row 1 (Is v3.1.id)),(4,.row 1 (Ls v3.1.cs)),(5,.row 1 (Ls v3.2.1))],6⟩) (Wk.r1 [(0,0),(2,1),(3,2),(4,3),(5,4),(6,5)] (by simp [hP,hhOk,back,Cat.cells,Mnd.cells,UA,U1,IA,I1,LA,L1,BA,B1,EA,E1,E2,eB,eI,eL])) ?_
 refine Qk ?_
 have hr:=Option.some.inj h
 rw [← hr]
 refine ⟨_,(.cell Q6q rfl rfl rfl (by simp) (by simp) (.tmp (.tmp .nil))),?_⟩
 refine ⟨(.agg rfl (.one rfl rfl (.one rfl rfl .nil))),[.val (.int .i64 v3.1.n),.lst true 1 (Is v3.1.fr),.lst true 1 (Is v3.1.to),.lst true 1 (Is v3.1.id),.lst true 1 (Ls v3.1.cs),.lst true 1 (Ls v3.2.1),.val (.int .i64 0)],[1,2,3,4,5],by simp [Cat.cells,Mnd.cells,UA,U1,IA,I1,LA,L1,BA,B1,EA,E1,E2,eB,eI,eL],by simp,(UpL.refl _)⟩
end Go.Vc.T
namespace Go.Vc.T
open Go Go.Vc Go.Proofs
noncomputable def Q25 (c_:Cat):Option Bool :=
 (
  if c_.n≤8 then
   some (decide ((c_.fr.length:Int)≤40))
  else
   some false:Option (Bool)).bind fun b1 =>
 some b1
theorem Q5u (c_:Cat) (r:Bool) (h:Q25 c_=some r):Contract Tryz.prog 79 [.agg (c_.cells true)] (.val (.bool r)):=by
 refine Qi (rvs:=[.tmp 2]) (rs:=[.val (.bool r)]) Tryz.func79 rfl rfl rfl rfl (by simp [Tryz.f79]) fun F hN hP=>?_
 unfold Q25 at h
 refine Q6 ?_
 refine runQ hN fun K hK=>?_
 simp [-Q0,-Q8,-Q3,-Q9,-Q4,eL,eI,Q1,Q5,Cat.cells]
 repeat with_reducible refine sdQ ?_
 refine hK _ ?_;clear hK K
 refine tn ?_
 refine Qa (st':=⟨[(1,.adr 0 0 0)],[(0,.mix 5 [(Cat.cells true c_)])],1⟩) (Wk.r1 [(0,0)] (by simp [hP,hhOk,back,Cat.cells,UA,U1,IA,I1,LA,L1,BA,B1,EA,E1,E2,eB,eI,eL])) ?_
 refine Q6 ?_
 replace h:=bind_some h
 obtain ⟨e1,h,h1⟩:=h
 refine Qm (fun b1:Bool=>⟨[(2,.val (.bool b1))],[],0⟩) (fun b1=>b1=e1) ?_ ?_
 ·refine runQ hN fun K hK=>?_
  simp [-Q0,-Q8,-Q3,-Q9,-Q4,eL,eI,Q1,Q5,Cat.cells]
  repeat with_reducible refine sdQ ?_
  refine Qq (fun g=>?_) (fun g=>?_)
  ·have g2:c_.n≤8:=gQ
   clear g
   replace h:=if_l g2 h
   simp [-Q0,-Q8,-Q3,-Q9,-Q4,eL,eI,Q1,Q5,Cat.cells]
   repeat with_reducible refine sdQ ?_
   refine hK _ ?_
   exact jn (b:=decide ((c_.fr.length:Int)≤40)) (Option.some.inj h) (Wk.r1 [] (by simp [hP,hhOk,back,Cat.cells,UA,U1,IA,I1,LA,L1,BA,B1,EA,E1,E2,eB,eI,eL]))
  have g2:¬ (c_.n≤8):=gQ
  clear g
  replace h:=if_r g2 h
  simp [-Q0,-Q8,-Q3,-Q9,-Q4,eL,eI,Q1,Q5,Cat.cells]
  repeat with_reducible refine sdQ ?_
  refine hK _ ?_
  exact jn (b:=false) (Option.some.inj h) (Wk.r1 [] (by simp [hP,hhOk,back,Cat.cells,UA,U1,IA,I1,LA,L1,BA,B1,EA,E1,E2,eB,eI,eL]))
 intro b1 hb1
 have h:=h1
 rw [← hb1] at h
 clear h1
 try dsimp only at h
 refine Qk ?_
 have hr:=Option.some.inj h
 rw [← hr]
 refine ⟨_,(.tmp .nil),?_⟩
 refine ⟨(.one rfl rfl .nil),[.val (.bool b1)],[],by simp [Cat.cells,UA,U1,IA,I1,LA,L1,BA,B1,EA,E1,E2,eB,eI,eL],by simp,(UpL.refl _)⟩
end Go.Vc.T
namespace Go.Vc.T
open Go Go.Vc Go.Proofs
noncomputable def Q2A (m_:Mnd) (z_:Int) (f_:Int) (g_:Int):Option Int :=
 ass (0≤g_∧g_<(m_.f.ar.length:Int)) <|
 (QG m_.f.s f_ (ix m_.f.ar g_)).bind fun v2 =>
 ass (0≤z_∧z_<(m_.j.length:Int)) <|
 (QG m_.f.s v2 (ix m_.j z_)).bind fun v4 =>
 some v4
theorem Q7W (m_:Mnd) (z_:Int) (f_:Int) (g_:Int) (r:Int) (h:Q2A m_ z_ f_ g_=some r):Contract Tryz.prog 110 [.agg (m_.cells true),.val (.int .i64 z_),.val (.int .i64 f_),.val (.int .i64 g_)] (.val (.int .i64 r)):=by
 refine Qi (rvs:=[.tmp 8]) (rs:=[.val (.int .i64 r)]) Tryz.func110 rfl rfl rfl rfl (by simp [Tryz.f110]) fun F hN hP=>?_
 unfold Q2A at h
 refine Q6 ?_
 refine runQ hN fun K hK=>?_
 simp [-Q0,-Q8,-Q3,-Q9,-Q4,eL,eI,Q1,Q5,Qc,Cat.cells,Mnd.cells]
 repeat with_reducible refine sdQ ?_
 refine hK _ ?_;clear hK K
 refine tn ?_
 refine Qa (st':=⟨[(1,.val (.int .i64 z_)),(2,.val (.int .i64 f_)),(3,.val (.int .i64 g_)),(4,.adr 0 0 0)],[(0,.mix 14 [(Mnd.cells true m_)])],1⟩) (Wk.r1 [(0,0)] (by simp [hP,hhOk,back,Cat.cells,Mnd.cells,UA,U1,IA,I1,LA,L1,BA,B1,EA,E1,E2,eB,eI,eL])) ?_
 refine Q6 ?_
 refine runQ hN fun K hK=>?_
 simp [-Q0,-Q8,-Q3,-Q9,-Q4,eL,eI,Q1,Q5,Qc,Cat.cells,Mnd.cells]
 repeat with_reducible refine sdQ ?_
 refine hK _ ?_;clear hK K
 refine tn ?_
 refine Qa (st':=⟨[(1,.val (.int .i64 z_)),(2,.val (.int .i64 f_)),(3,.val (.int .i64 g_)),(4,.adr 0 0 0),(9,.adr 1 0 0)],[(0,.mix 14 [(Mnd.cells true m_)]),(1,.mix 5 [(Cat.cells true m_.f.s)])],2⟩) (Wk.r1 [(0,0),(1,1)] (by simp [hP,hhOk,back,Cat.cells,Mnd.cells,UA,U1,IA,I1,LA,L1,BA,B1,EA,E1,E2,eB,eI,eL])) ?_
 refine Q6 ?_
 refine runQ hN fun K hK=>?_
 replace h:=Q7 h
 obtain ⟨a1,h⟩:=h
 simp [-Q0,-Q8,-Q3,-Q9,-Q4,eL,eI,Q1,Q5,Qc,Cat.cells,Mnd.cells,at_I a1]
 repeat with_reducible refine sdQ ?_
 replace h:=bind_some h
 obtain ⟨v2,hv2,h⟩:=h
 refine Q2 (Q18 _ _ _ v2 hv2) (.cons (.aggL (.cons .val (.cons .lst (.cons .lst (.cons .lst (.cons .lst .nil)))))) (.cons .val (.cons .val .nil))) ?_
 replace h:=Q7 h
 obtain ⟨a3,h⟩:=h
 simp [-Q0,-Q8,-Q3,-Q9,-Q4,unk,unA,unE,unT,unC,flat,eL,eI,Q1,Q5,Qc,Cat.cells,Mnd.cells,at_I a1,at_I a3]
 repeat with_reducible refine sdQ ?_
 replace h:=bind_some h
 obtain ⟨v4,hv4,h⟩:=h
 refine Q2 (Q18 _ _ _ v4 hv4) (.cons (.aggL (.cons .val (.cons .lst (.cons .lst (.cons .lst (.cons .lst .nil)))))) (.cons .val (.cons .val .nil))) ?_
 simp [-Q0,-Q8,-Q3,-Q9,-Q4,unk,unA,unE,unT,unC,flat,eL,eI,Q1,Q5,Qc,Cat.cells,Mnd.cells,at_I a1,at_I a3]
 repeat with_reducible refine sdQ ?_
 refine hK _ ?_;clear hK K
 refine tn ?_
 refine Qa (st':=⟨[(8,.val (.int .i64 v4))],[],0⟩) (Wk.r1 [] (by simp [hP,hhOk,back,Cat.cells,Mnd.cells,UA,U1,IA,I1,LA,L1,BA,B1,EA,E1,E2,eB,eI,eL])) ?_
 refine Qk ?_
 have hr:=Option.some.inj h
 rw [← hr]
 refine ⟨_,(.tmp .nil),?_⟩
 refine ⟨(.one rfl rfl .nil),[.val (.int .i64 v4)],[],by simp [Cat.cells,Mnd.cells,UA,U1,IA,I1,LA,L1,BA,B1,EA,E1,E2,eB,eI,eL],by simp,(UpL.refl _)⟩
end Go.Vc.T
namespace Go.Vc.T
open Go Go.Vc Go.Proofs
noncomputable def Q1I (m_:Mnd):Option (Cat × List (List Int)) :=
 (QH (σ:=List (List Int) × Int) (ε:=List (List Int)) (fun s34 =>
  if s34.2<m_.f.s.n then
   (
    (QH (σ:=List (List Int) × Int) (ε:=List (List Int)) (fun s51 =>
     if s51.2<m_.f.s.n then
      (
       ass (0≤s51.2∧s51.2<(m_.f.ob.length:Int)) <|
       (Q30 m_.f.s s34.2 (ix m_.f.ob s51.2)).bind fun v55 =>
       (QH (σ:=List (List Int) × Int) (ε:=List (List Int)) (fun s60 =>
        if s60.2<(v55.length:Int) then
         ass (0≤s60.2∧s60.2<(v55.length:Int)) <|
         ass ((s60.1++[[s34.2,s51.2,ix v55 s60.2]]).length≤1073741824) <|
         ass (B64 (s60.2+1)) <|
         some (Ctl.next (s60.1++[[s34.2,s51.2,ix v55 s60.2]],s60.2+1))
        else
         some (Ctl.ret s60.1)) fuel (s51.1,0)).bind fun p60 =>
       some p60:Option (List (List Int))).bind fun b53 =>
      ass (B64 (s51.2+1)) <|
      some (Ctl.next (b53,s51.2+1))
     else
      some (Ctl.ret s51.1)) fuel (s34.1,0)).bind fun p51 =>
    some p51:Option (List (List Int))).bind fun b36 =>
   ass (B64 (s34.2+1)) <|
   some (Ctl.next (b36,s34.2+1))
  else
   some (Ctl.ret s34.1)) fuel ([],0)).bind fun b1 =>
 (Q1C b1 0).bind fun v67 =>
 (Q1C b1 1).bind fun v68 =>
 (QH (σ:=List Int × Int) (ε:=List Int) (fun s75 =>
  if s75.2<m_.f.s.n then
   ass (0≤s75.2∧s75.2<(m_.u.length:Int)) <|
   (Q1A b1 [s75.2,s75.2,ix m_.u s75.2]).bind fun v78 =>
   ass ((s75.1++[v78]).length≤1073741824) <|
   ass (B64 (s75.2+1)) <|
   some (Ctl.next (s75.1++[v78],s75.2+1))
  else
   some (Ctl.ret s75.1)) fuel ([],0)).bind fun b69 =>
 (QH (σ:=List (List Int) × Int) (ε:=List (List Int)) (fun s122 =>
  (
   if s122.2<(b1.length:Int) then
    (Q25 (⟨m_.f.s.n,v67,v68,b69,s122.1⟩:Cat)).bind fun v125 =>
    some v125
   else
    some false:Option (Bool)).bind fun b123 =>
  if b123=true then
   (QH (σ:=List Int × Int) (ε:=List Int) (fun s144 =>
    if s144.2<(b1.length:Int) then
     ass (0≤s122.2∧s122.2<(b1.length:Int)) <|
     ass (0≤s144.2∧s144.2<(b1.length:Int)) <|
     ass ((0:Int)≤1∧1<((rx b1 s122.2).length:Int)) <|
     ass ((0:Int)≤0∧0<((rx b1 s144.2).length:Int)) <|
     (
      if (ix (rx b1 s122.2) 1)=(ix (rx b1 s144.2) 0) then
       ass ((0:Int)≤0∧0<((rx b1 s122.2).length:Int)) <|
       ass ((0:Int)≤1∧1<((rx b1 s144.2).length:Int)) <|
       ass ((0:Int)≤1∧1<((rx b1 s144.2).length:Int)) <|
       ass ((0:Int)≤2∧2<((rx b1 s122.2).length:Int)) <|
       ass ((0:Int)≤2∧2<((rx b1 s144.2).length:Int)) <|
       (Q2A m_ (ix (rx b1 s144.2) 1) (ix (rx b1 s122.2) 2) (ix (rx b1 s144.2) 2)).bind fun v157 =>
       (Q1A b1 [ix (rx b1 s122.2) 0,ix (rx b1 s144.2) 1,v157]).bind fun v158 =>
       some v158
      else
       some (-1):Option (Int)).bind fun b150 =>
     ass ((s144.1++[b150]).length≤1073741824) <|
     ass (B64 (s144.2+1)) <|
     some (Ctl.next (s144.1++[b150],s144.2+1))
    else
     some (Ctl.ret s144.1)) fuel ([],0)).bind fun b127 =>
   ass ((s122.1++[b127]).length≤1073741824) <|
   ass (B64 (s122.2+1)) <|
   some (Ctl.next (s122.1++[b127],s122.2+1))
  else
   some (Ctl.ret s122.1)) fuel ([],0)).bind fun b81 =>
 some ((⟨m_.f.s.n,v67,v68,b69,b81⟩:Cat),b1)
theorem Q5E (m_:Mnd) (r:Cat × List (List Int)) (h:Q1I m_=some r):Contract Tryz.prog 78 [.agg (m_.cells true)] (.tup [.agg (r.1.cells true),.lst true 1 (Ls r.2)]):=by
 refine Qi (rvs:=[.cell 2 31,.tmp 3]) (rs:=[.agg (r.1.cells true),.lst true 1 (Ls r.2)]) Tryz.func78 rfl rfl rfl rfl (by simp [Tryz.f78]) fun F hN hP=>?_
 unfold Q1I at h
 refine Q6 ?_
 refine runQ hN fun K hK=>?_
 simp [-Q0,-Q8,-Q3,-Q9,-Q4,eL,eI,Q1,Q5,Qc,Cat.cells,Mnd.cells]
 repeat with_reducible refine sdQ ?_
 refine hK _ ?_;clear hK K
 refine tn ?_
 refine Qa (st':=⟨[(1,.adr 0 0 0),(2,.adr 1 0 0)],[(0,.mix 14 [(Mnd.cells true m_)]),(1,.mix 5 [[.val (.int .i64 0),.val (.slice none 0 0),.val (.slice none 0 0),.val (.slice none 0 0),.val (.slice none 0 0)]])],2⟩) (Wk.r1 [(0,0),(1,1)] (by simp [hP,hhOk,back,Cat.cells,Mnd.cells,UA,U1,IA,I1,LA,L1,BA,B1,EA,E1,E2,eB,eI,eL])) ?_
 refine Q6 ?_
 refine runQ hN fun K hK=>?_
 simp [-Q0,-Q8,-Q3,-Q9,-Q4,eL,eI,Q1,Q5,Qc,Cat.cells,Mnd.cells]
 repeat with_reducible refine sdQ ?_
 refine hK _ ?_;clear hK K
 refine tn ?_
 refine Qa (st':=⟨[(1,.adr 0 0 0),(2,.adr 1 0 0),(4,.adr 2 0 0)],[(0,.mix 14 [(Mnd.cells true m_)]),(1,.mix 5 [[.val (.int .i64 0),.val (.slice none 0 0),.val (.slice none 0 0),.val (.slice none 0 0),.val (.slice none 0 0)]]),(2,.mix 5 [(Cat.cells true m_.f.s)])],3⟩) (Wk.r1 [(0,0),(1,1),(2,2)] (by simp [hP,hhOk,back,Cat.cells,Mnd.cells,UA,U1,IA,I1,LA,L1,BA,B1,EA,E1,E2,eB,eI,eL])) ?_
 refine Q6 ?_
 refine runQ hN fun K hK=>?_
 simp [-Q0,-Q8,-Q3,-Q9,-Q4,eL,eI,Q1,Q5,Qc,Cat.cells,Mnd.cells]
 repeat with_reducible refine sdQ ?_
 refine hK _ ?_;clear hK K
 refine tn ?_
 refine Qa (st':=⟨[(1,.adr 0 0 0),(2,.adr 1 0 0),(4,.adr 2 0 0),(5,.own 3 0 0)],[(0,.mix 14 [(Mnd.cells true m_)]),(1,.mix 5 [[.val (.int .i64 0),.val (.slice none 0 0),.val (.slice none 0 0),.val (.slice none 0 0),.val (.slice none 0 0)]]),(2,.mix 5 [(Cat.cells true m_.f.s)]),(3,.mix 1 [])],4⟩) (Wk.r1 [(0,0),(1,1),(2,2),(3,3)] (by simp [hP,hhOk,back,Cat.cells,Mnd.cells,UA,U1,IA,I1,LA,L1,BA,B1,EA,E1,E2,eB,eI,eL])) ?_
 refine Q6 ?_
 refine Q6 ?_
 refine runQ hN fun K hK=>?_
 simp [-Q0,-Q8,-Q3,-Q9,-Q4,eL,eI,Q1,Q5,Qc,Cat.cells,Mnd.cells]
 repeat with_reducible refine sdQ ?_
 refine hK _ ?_;clear hK K
 refine tn ?_
 refine Qa (st':=⟨[(1,.adr 0 0 0),(2,.adr 1 0 0),(4,.adr 2 0 0),(5,.own 3 0 0),(6,.val (.int .i64 0))],[(0,.mix 14 [(Mnd.cells true m_)]),(1,.mix 5 [[.val (.int .i64 0),.val (.slice none 0 0),.val (.slice none 0 0),.val (.slice none 0 0),.val (.slice none 0 0)]]),(2,.mix 5 [(Cat.cells true m_.f.s)]),(3,.mix 1 [])],4⟩) (Wk.r1 [(0,0),(1,1),(2,2),(3,3)] (by simp [hP,hhOk,back,Cat.cells,Mnd.cells,UA,U1,IA,I1,LA,L1,BA,B1,EA,E1,E2,eB,eI,eL])) ?_
 replace h:=bind_some h
 obtain ⟨e1,h,h1⟩:=h
 refine Qm (fun b1:List (List Int)=>⟨[(1,.adr 0 0 0),(2,.adr 1 0 0),(4,.adr 2 0 0),(5,.own 3 0 b1.length)],[(0,.mix 14 [(Mnd.cells true m_)]),(1,.mix 5 [[.val (.int .i64 0),.val (.slice none 0 0),.val (.slice none 0 0),.val (.slice none 0 0),.val (.slice none 0 0)]]),(2,.mix 5 [(Cat.cells true m_.f.s)]),(3,.row 1 (Ls b1))],4⟩) (fun b1=>b1=e1) ?_ ?_
 ·refine Qf ?_
  refine Qy h (fun s34:List (List Int) × Int=>⟨[(1,.adr 0 0 0),(2,.adr 1 0 0),(4,.adr 2 0 0),(5,.own 3 0 s34.1.length),(6,.val (.int .i64 s34.2))],[(0,.mix 14 [(Mnd.cells true m_)]),(1,.mix 5 [[.val (.int .i64 0),.val (.slice none 0 0),.val (.slice none 0 0),.val (.slice none 0 0),.val (.slice none 0 0)]]),(2,.mix 5 [(Cat.cells true m_.f.s)]),(3,.row 1 (Ls s34.1))],4⟩) (Q3h ⟨[(1,.adr 0 0 0),(2,.adr 1 0 0),(4,.adr 2 0 0),(5,.own 3 0 0),(6,.val (.int .i64 0))],[(0,.mix 14 [(Mnd.cells true m_)]),(1,.mix 5 [[.val (.int .i64 0),.val (.slice none 0 0),.val (.slice none 0 0),.val (.slice none 0 0),.val (.slice none 0 0)]]),(2,.mix 5 [(Cat.cells true m_.f.s)]),(3,.row 1 (Ls []))],4⟩ (Wk.nils [] (by simp) (by simp) (by simp [nlA]) (by simp [entN,nlL,nlA,Cat.cells,Mnd.cells,UA,U1,IA,I1,LA,L1,BA,B1,EA,E1,E2,eB,eI,eL]) (by simp)) (Wk.r1 [(0,0),(1,1),(2,2),(3,3)] (by simp [hP,hhOk,back,Cat.cells,Mnd.cells,UA,U1,IA,I1,LA,L1,BA,B1,EA,E1,E2,eB,eI,eL]))) ?_
  clear h
  intro k34 s34 c34 h hk34
  refine Q6 ?_
  refine Q6 ?_
  refine runQ hN fun K hK=>?_
  simp [-Q0,-Q8,-Q3,-Q9,-Q4,eL,eI,Q1,Q5,Qc,Cat.cells,Mnd.cells]
  repeat with_reducible refine sdQ ?_
  refine hK _ ?_;clear hK K
  refine tn ?_
  refine Qa (st':=⟨[(1,.adr 0 0 0),(2,.adr 1 0 0),(4,.adr 2 0 0),(5,.own 3 0 s34.1.length),(6,.val (.int .i64 s34.2)),(25,.val (.bool (decide (s34.2<m_.f.s.n))))],[(0,.mix 14 [(Mnd.cells true m_)]),(1,.mix 5 [[.val (.int .i64 0),.val (.slice none 0 0),.val (.slice none 0 0),.val (.slice none 0 0),.val (.slice none 0 0)]]),(2,.mix 5 [(Cat.cells true m_.f.s)]),(3,.row 1 (Ls s34.1))],4⟩) (Wk.r1 [(0,0),(1,1),(2,2),(3,3)] (by simp [hP,hhOk,back,Cat.cells,Mnd.cells,UA,U1,IA,I1,LA,L1,BA,B1,EA,E1,E2,eB,eI,eL])) ?_
  refine Qg rfl (fun g=>?_) fun g=>?_
  ·have g35:s34.2<m_.f.s.n:=gQ
   clear g
   replace h:=if_l g35 h
   refine Qh ?_
   refine tn ?_
   refine Q6 ?_
   replace h:=bind_some h
   obtain ⟨e36,h,h36⟩:=h
   refine Qm (fun b36:List (List Int)=>⟨[(1,.adr 0 0 0),(2,.adr 1 0 0),(4,.adr 2 0 0),(5,.own 3 0 b36.length),(6,.val (.int .i64 s34.2))],[(0,.mix 14 [(Mnd.cells true m_)]),(1,.mix 5 [[.val (.int .i64 0),.val (.slice none 0 0),.val (.slice none 0 0),.val (.slice none 0 0),.val (.slice none 0 0)]]),(2,.mix 5 [(Cat.cells true m_.f.s)]),(3,.row 1 (Ls b36))],4⟩) (fun b36=>b36=e36) ?_ ?_
   ·refine Qf ?_
    refine Q6 ?_
    refine runQ hN fun K hK=>?_
    simp [-Q0,-Q8,-Q3,-Q9,-Q4,eL,eI,Q1,Q5,Qc,Cat.cells,Mnd.cells]
    repeat with_reducible refine sdQ ?_
    refine hK _ ?_;clear hK K
    refine tn ?_
    refine Qa (st':=⟨[(1,.adr 0 0 0),(2,.adr 1 0 0),(4,.adr 2 0 0),(5,.own 3 0 s34.1.length),(6,.val (.int .i64 s34.2)),(7,.val (.int .i64 0))],[(0,.mix 14 [(Mnd.cells true m_)]),(1,.mix 5 [[.val (.int .i64 0),.val (.slice none 0 0),.val (.slice none 0 0),.val (.slice none 0 0),.val (.slice none 0 0)]]),(2,.mix 5 [(Cat.cells true m_.f.s)]),(3,.row 1 (Ls s34.1))],4⟩) (Wk.r1 [(0,0),(1,1),(2,2),(3,3)] (by simp [hP,hhOk,back,Cat.cells,Mnd.cells,UA,U1,IA,I1,LA,L1,BA,B1,EA,E1,E2,eB,eI,eL])) ?_
    refine Qf ?_
    replace h:=bind_some h
    obtain ⟨e51,he51,h51⟩:=h
    refine Qy he51 (fun s51:List (List Int) × Int=>⟨[(1,.adr 0 0 0),(2,.adr 1 0 0),(4,.adr 2 0 0),(5,.own 3 0 s51.1.length),(6,.val (.int .i64 s34.2)),(7,.val (.int .i64 s51.2))],[(0,.mix 14 [(Mnd.cells true m_)]),(1,.mix 5 [[.val (.int .i64 0),.val (.slice none 0 0),.val (.slice none 0 0),.val (.slice none 0 0),.val (.slice none 0 0)]]),(2,.mix 5 [(Cat.cells true m_.f.s)]),(3,.row 1 (Ls s51.1))],4⟩) (Wk.r1 [(0,0),(1,1),(2,2),(3,3)] (by simp [hP,hhOk,back,Cat.cells,Mnd.cells,UA,U1,IA,I1,LA,L1,BA,B1,EA,E1,E2,eB,eI,eL])) ?_
    intro k51 s51 c51 h hk51
    refine Q6 ?_
    refine Q6 ?_
    refine runQ hN fun K hK=>?_
    simp [-Q0,-Q8,-Q3,-Q9,-Q4,eL,eI,Q1,Q5,Qc,Cat.cells,Mnd.cells]
    repeat with_reducible refine sdQ ?_
    refine hK _ ?_;clear hK K
    refine tn ?_
    refine Qa (st':=⟨[(1,.adr 0 0 0),(2,.adr 1 0 0),(4,.adr 2 0 0),(5,.own 3 0 s51.1.length),(6,.val (.int .i64 s34.2)),(7,.val (.int .i64 s51.2)),(31,.val (.bool (decide (s51.2<m_.f.s.n))))],[(0,.mix 14 [(Mnd.cells true m_)]),(1,.mix 5 [[.val (.int .i64 0),.val (.slice none 0 0),.val (.slice none 0 0),.val (.slice none 0 0),.val (.slice none 0 0)]]),(2,.mix 5 [(Cat.cells true m_.f.s)]),(3,.row 1 (Ls s51.1))],4⟩) (Wk.r1 [(0,0),(1,1),(2,2),(3,3)] (by simp [hP,hhOk,back,Cat.cells,Mnd.cells,UA,U1,IA,I1,LA,L1,BA,B1,EA,E1,E2,eB,eI,eL])) ?_
    refine Qg rfl (fun g=>?_) fun g=>?_
    ·have g52:s51.2<m_.f.s.n:=gQ
     clear g
     replace h:=if_l g52 h
     refine Qh ?_
     refine tn ?_
     refine Q6 ?_
     replace h:=bind_some h
     obtain ⟨e53,h,h53⟩:=h
     refine Qm (fun b53:List (List Int)=>⟨[(1,.adr 0 0 0),(2,.adr 1 0 0),(4,.adr 2 0 0),(5,.own 3 0 b53.length),(6,.val (.int .i64 s34.2)),(7,.val (.int .i64 s51.2))],[(0,.mix 14 [(Mnd.cells true m_)]),(1,.mix 5 [[.val (.int .i64 0),.val (.slice none 0 0),.val (.slice none 0 0),.val (.slice none 0 0),.val (.slice none 0 0)]]),(2,.mix 5 [(Cat.cells true m_.f.s)]),(3,.row 1 (Ls b53))],4⟩) (fun b53=>b53=e53) ?_ ?_
     ·refine Qf ?_
      refine Q6 ?_
      refine runQ hN fun K hK=>?_
      replace h:=Q7 h
      obtain ⟨a54,h⟩:=h
      simp [-Q0,-Q8,-Q3,-Q9,-Q4,eL,eI,Q1,Q5,Qc,Cat.cells,Mnd.cells,at_I a54]
      repeat with_reducible refine sdQ ?_
      replace h:=bind_some h
      obtain ⟨v55,hv55,h⟩:=h
      refine Q2 (Q9b _ _ _ v55 hv55) (.cons (.aggL (.cons .val (.cons .lst (.cons .lst (.cons .lst (.cons .lst .nil)))))) (.cons .val (.cons .val .nil))) ?_
      simp [-Q0,-Q8,-Q3,-Q9,-Q4,unk,unA,unE,unT,unC,flat,eL,eI,Q1,Q5,Qc,Cat.cells,Mnd.cells,at_I a54]
      repeat with_reducible refine sdQ ?_
      refine hK _ ?_;clear hK K
      refine tn ?_
      refine Qa (st':=⟨[(1,.adr 0 0 0),(2,.adr 1 0 0),(4,.adr 2 0 0),(5,.own 3 0 s51.1.length),(6,.val (.int .i64 s34.2)),(7,.val (.int .i64 s51.2)),(8,.own 4 0 v55.length)],[(0,.mix 14 [(Mnd.cells true m_)]),(1,.mix 5 [[.val (.int .i64 0),.val (.slice none 0 0),.val (.slice none 0 0),.val (.slice none 0 0),.val (.slice none 0 0)]]),(2,.mix 5 [(Cat.cells true m_.f.s)]),(3,.row 1 (Ls s51.1)),(4,.row 1 (Is v55))],5⟩) (Wk.r1 [(0,0),(1,1),(2,2),(3,3),(4,4)] (by simp [hP,hhOk,back,Cat.cells,Mnd.cells,UA,U1,IA,I1,LA,L1,BA,B1,EA,E1,E2,eB,eI,eL])) ?_
      refine Q6 ?_
      refine runQ hN fun K hK=>?_
      simp [-Q0,-Q8,-Q3,-Q9,-Q4,eL,eI,Q1,Q5,Qc,Cat.cells,Mnd.cells]
      repeat with_reducible refine sdQ ?_
      refine hK _ ?_;clear hK K
      refine tn ?_
      refine Qa (st':=⟨[(1,.adr 0 0 0),(2,.adr 1 0 0),(4,.adr 2 0 0),(5,.own 3 0 s51.1.length),(6,.val (.int .i64 s34.2)),(7,.val (.int .i64 s51.2)),(8,.own 4 0 v55.length),(9,.val (.int .i64 0))],[(0,.mix 14 [(Mnd.cells true m_)]),(1,.mix 5 [[.val (.int .i64 0),.val (.slice none 0 0),.val (.slice none 0 0),.val (.slice none 0 0),.val (.slice none 0 0)]]),(2,.mix 5 [(Cat.cells true m_.f.s)]),(3,.row 1 (Ls s51.1)),(4,.row 1 (Is v55))],5⟩) (Wk.r1 [(0,0),(1,1),(2,2),(3,3),(4,4)] (by simp [hP,hhOk,back,Cat.cells,Mnd.cells,UA,U1,IA,I1,LA,L1,BA,B1,EA,E1,E2,eB,eI,eL])) ?_
      refine Qf ?_
      replace h:=bind_some h
      obtain ⟨e60,he60,h60⟩:=h
      refine Qy he60 (fun s60:List (List Int) × Int=>⟨[(1,.adr 0 0 0),(2,.adr 1 0 0),(4,.adr 2 0 0),(5,.own 3 0 s60.1.length),(6,.val (.int .i64 s34.2)),(7,.val (.int .i64 s51.2)),(8,.own 4 0 v55.length),(9,.val (.int .i64 s60.2))],[(0,.mix 14 [(Mnd.cells true m_)]),(1,.mix 5 [[.val (.int .i64 0),.val (.slice none 0 0),.val (.slice none 0 0),.val (.slice none 0 0),.val (.slice none 0 0)]]),(2,.mix 5 [(Cat.cells true m_.f.s)]),(3,.row 1 (Ls s60.1)),(4,.row 1 (Is v55))],5⟩) (Wk.r1 [(0,0),(1,1),(2,2),(3,3),(4,4)] (by simp [hP,hhOk,back,Cat.cells,Mnd.cells,UA,U1,IA,I1,LA,L1,BA,B1,EA,E1,E2,eB,eI,eL])) ?_
      intro k60 s60 c60 h hk60
      refine Q6 ?_
      refine Q6 ?_
      refine runQ hN fun K hK=>?_
      simp [-Q0,-Q8,-Q3,-Q9,-Q4,eL,eI,Q1,Q5,Qc,Cat.cells,Mnd.cells]
      repeat with_reducible refine sdQ ?_
      refine hK _ ?_;clear hK K
      refine tn ?_
      refine Qa (st':=⟨[(1,.adr 0 0 0),(2,.adr 1 0 0),(4,.adr 2 0 0),(5,.own 3 0 s60.1.length),(6,.val (.int .i64 s34.2)),(7,.val (.int .i64 s51.2)),(8,.own 4 0 v55.length),(9,.val (.int .i64 s60.2)),(46,.val (.bool (decide (s60.2<(v55.length:Int)))))],[(0,.mix 14 [(Mnd.cells true m_)]),(1,.mix 5 [[.val (.int .i64 0),.val (.slice none 0 0),.val (.slice none 0 0),.val (.slice none 0 0),.val (.slice none 0 0)]]),(2,.mix 5 [(Cat.cells true m_.f.s)]),(3,.row 1 (Ls s60.1)),(4,.row 1 (Is v55))],5⟩) (Wk.r1 [(0,0),(1,1),(2,2),(3,3),(4,4)] (by simp [hP,hhOk,back,Cat.cells,Mnd.cells,UA,U1,IA,I1,LA,L1,BA,B1,EA,E1,E2,eB,eI,eL])) ?_
      refine Qg rfl (fun g=>?_) fun g=>?_
      ·have g61:s60.2<(v55.length:Int):=gQ
       clear g
       replace h:=if_l g61 h
       refine Qh ?_
       refine tn ?_
       refine Q6 ?_
       refine Qf ?_
       refine runQ hN fun K hK=>?_
       replace h:=Q7 h
       obtain ⟨a62,h⟩:=h
       replace h:=Q7 h
       obtain ⟨a63,h⟩:=h
       try simp only [List.length_append,List.length_cons,List.length_nil] at a63
       simp [-Q0,-Q8,-Q3,-Q9,-Q4,eL,eI,Q1,Q5,Qc,Cat.cells,Mnd.cells,at_I a62,a63]
       repeat with_reducible refine sdQ ?_
       refine hK _ ?_;clear hK K
       refine bn ?_
       refine tn ?_
       refine Qa (st':=⟨[(1,.adr 0 0 0),(2,.adr 1 0 0),(4,.adr 2 0 0),(5,.own 3 0 ((s60.1++[[s34.2,s51.2,ix v55 s60.2]]).length)),(6,.val (.int .i64 s34.2)),(7,.val (.int .i64 s51.2)),(8,.own 4 0 v55.length),(9,.val (.int .i64 s60.2))],[(0,.mix 14 [(Mnd.cells true m_)]),(1,.mix 5 [[.val (.int .i64 0),.val (.slice none 0 0),.val (.slice none 0 0),.val (.slice none 0 0),.val (.slice none 0 0)]]),(2,.mix 5 [(Cat.cells true m_.f.s)]),(3,.row 1 (Ls (s60.1++[[s34.2,s51.2,ix v55 s60.2]]))),(4,.row 1 (Is v55))],5⟩) (Wk.r1 [(0,0),(1,1),(2,2),(8,3),(4,4)] (by simp [hP,hhOk,back,Cat.cells,Mnd.cells,UA,U1,IA,I1,LA,L1,BA,B1,EA,E1,E2,eB,eI,eL])) ?_
       refine runQ hN fun K hK=>?_
       replace h:=Q7 h
       obtain ⟨a64,h⟩:=h
       simp [-Q0,-Q8,-Q3,-Q9,-Q4,eL,eI,Q1,Q5,Qc,Cat.cells,Mnd.cells,Qw a64]
       repeat with_reducible refine sdQ ?_
       refine hK _ ?_;clear hK K
       cases h
       exact rn (s':=(s60.1++[[s34.2,s51.2,ix v55 s60.2]],s60.2+1)) hk60 (Wk.r1 [(0,0),(1,1),(2,2),(3,3),(4,4)] (by simp [hP,hhOk,back,Cat.cells,Mnd.cells,UA,U1,IA,I1,LA,L1,BA,B1,EA,E1,E2,eB,eI,eL]))
      have g61:¬ (s60.2<(v55.length:Int)):=gQ
      clear g
      replace h:=if_r g61 h
      refine Qp ?_
      refine tx ?_
      refine lx ?_
      refine bh ?_
      refine bn ?_
      cases h
      have q:_=e60:=hk60
      have h:=h60
      rw [← q] at h
      clear q
      try dsimp only at h
      exact jn (b:=s60.1) (Option.some.inj h) (Wk.r1 [(0,0),(1,1),(2,2),(3,3)] (by simp [hP,hhOk,back,Cat.cells,Mnd.cells,UA,U1,IA,I1,LA,L1,BA,B1,EA,E1,E2,eB,eI,eL]))
     intro b53 hb53
     have h:=h53
     rw [← hb53] at h
     clear h53
     try dsimp only at h
     refine runQ hN fun K hK=>?_
     replace h:=Q7 h
     obtain ⟨a65,h⟩:=h
     simp [-Q0,-Q8,-Q3,-Q9,-Q4,eL,eI,Q1,Q5,Qc,Cat.cells,Mnd.cells,Qw a65]
     repeat with_reducible refine sdQ ?_
     refine hK _ ?_;clear hK K
     cases h
     exact rn (s':=(b53,s51.2+1)) hk51 (Wk.r1 [(0,0),(1,1),(2,2),(3,3)] (by simp [hP,hhOk,back,Cat.cells,Mnd.cells,UA,U1,IA,I1,LA,L1,BA,B1,EA,E1,E2,eB,eI,eL]))
    have g52:¬ (s51.2<m_.f.s.n):=gQ
    clear g
    replace h:=if_r g52 h
    refine Qp ?_
    refine tx ?_
    refine lx ?_
    refine bh ?_
    refine bn ?_
    cases h
    have q:_=e51:=hk51
    have h:=h51
    rw [← q] at h
    clear q
    try dsimp only at h
    exact jn (b:=s51.1) (Option.some.inj h) (Wk.r1 [(0,0),(1,1),(2,2),(3,3)] (by simp [hP,hhOk,back,Cat.cells,Mnd.cells,UA,U1,IA,I1,LA,L1,BA,B1,EA,E1,E2,eB,eI,eL]))
   intro b36 hb36
   have h:=h36
   rw [← hb36] at h
   clear h36
   try dsimp only at h
   refine runQ hN fun K hK=>?_
   replace h:=Q7 h
   obtain ⟨a66,h⟩:=h
   simp [-Q0,-Q8,-Q3,-Q9,-Q4,eL,eI,Q1,Q5,Qc,Cat.cells,Mnd.cells,Qw a66]
   repeat with_reducible refine sdQ ?_
   refine hK _ ?_;clear hK K
   cases h
   exact rn (s':=(b36,s34.2+1)) hk34 (Wk.r1 [(0,0),(1,1),(2,2),(3,3)] (by simp [hP,hhOk,back,Cat.cells,Mnd.cells,UA,U1,IA,I1,LA,L1,BA,B1,EA,E1,E2,eB,eI,eL]))
  have g35:¬ (s34.2<m_.f.s.n):=gQ
  clear g
  replace h:=if_r g35 h
  refine Qp ?_
  refine tx ?_
  refine lx ?_
  refine bh ?_
  cases h
  exact jn (b:=s34.1) hk34 (Wk.r1 [(0,0),(1,1),(2,2),(3,3)] (by simp [hP,hhOk,back,Cat.cells,Mnd.cells,UA,U1,IA,I1,LA,L1,BA,B1,EA,E1,E2,eB,eI,eL]))
 intro b1 hb1
 have h:=h1
 rw [← hb1] at h
 clear h1
 try dsimp only at h
 refine Q6 ?_
 refine runQ hN fun K hK=>?_
 simp [-Q0,-Q8,-Q3,-Q9,-Q4,eL,eI,Q1,Q5,Qc,Cat.cells,Mnd.cells]
 repeat with_reducible refine sdQ ?_
 replace h:=bind_some h
 obtain ⟨v67,hv67,h⟩:=h
 refine Q2 (Q4k _ _ v67 hv67) (.cons (.whole (by simp) (by simp) (by simp)) (.cons .val .nil)) ?_
 simp [-Q0,-Q8,-Q3,-Q9,-Q4,unk,unA,unE,unT,unC,flat,eL,eI,Q1,Q5,Qc,Cat.cells,Mnd.cells]
 repeat with_reducible refine sdQ ?_
 replace h:=bind_some h
 obtain ⟨v68,hv68,h⟩:=h
 refine Q2 (Q4k _ _ v68 hv68) (.cons (.whole (by simp) (by simp) (by simp)) (.cons .val .nil)) ?_
 simp [-Q0,-Q8,-Q3,-Q9,-Q4,unk,unA,unE,unT,unC,flat,eL,eI,Q1,Q5,Qc,Cat.cells,Mnd.cells]
 repeat with_reducible refine sdQ ?_
 refine hK _ ?_;clear hK K
 refine tn ?_
 refine Qa (st':=⟨[(1,.adr 0 0 0),(2,.adr 1 0 0),(4,.adr 2 0 0),(5,.own 3 0 b1.length),(10,.adr 4 0 0)],[(0,.mix 14 [(Mnd.cells true m_)]),(1,.mix 5 [[.val (.int .i64 0),.val (.slice none 0 0),.val (.slice none 0 0),.val (.slice none 0 0),.val (.slice none 0 0)]]),(2,.mix 5 [(Cat.cells true m_.f.s)]),(3,.row 1 (Ls b1)),(4,.mix 5 [[.val (.int .i64 m_.f.s.n),.own 5 0 v67.length,.own 6 0 v68.length,.own 7 0 0,.own 8 0 0]]),(5,.row 1 (Is v67)),(6,.row 1 (Is v68)),(7,.mix 1 []),(8,.mix 1 [])],9⟩) (Wk.r1 [(0,0),(1,1),(2,2),(3,3),(8,4),(4,5),(5,6),(6,7),(7,8)] (by simp [hP,hhOk,back,Cat.cells,Mnd.cells,UA,U1,IA,I1,LA,L1,BA,B1,EA,E1,E2,eB,eI,eL])) ?_
 refine Q6 ?_
 refine Q6 ?_
 refine runQ hN fun K hK=>?_
 simp [-Q0,-Q8,-Q3,-Q9,-Q4,eL,eI,Q1,Q5,Qc,Cat.cells,Mnd.cells]
 repeat with_reducible refine sdQ ?_
 refine hK _ ?_;clear hK K
 refine tn ?_
 refine Qa (st':=⟨[(1,.adr 0 0 0),(2,.adr 1 0 0),(4,.adr 2 0 0),(5,.own 3 0 b1.length),(10,.adr 4 0 0),(11,.val (.int .i64 0))],[(0,.mix 14 [(Mnd.cells true m_)]),(1,.mix 5 [[.val (.int .i64 0),.val (.slice none 0 0),.val (.slice none 0 0),.val (.slice none 0 0),.val (.slice none 0 0)]]),(2,.mix 5 [(Cat.cells true m_.f.s)]),(3,.row 1 (Ls b1)),(4,.mix 5 [[.val (.int .i64 m_.f.s.n),.own 5 0 v67.length,.own 6 0 v68.length,.own 7 0 0,.own 8 0 0]]),(5,.row 1 (Is v67)),(6,.row 1 (Is v68)),(7,.mix 1 []),(8,.mix 1 [])],9⟩) (Wk.r1 [(0,0),(1,1),(2,2),(3,3),(4,4),(5,5),(6,6),(7,7),(8,8)] (by simp [hP,hhOk,back,Cat.cells,Mnd.cells,UA,U1,IA,I1,LA,L1,BA,B1,EA,E1,E2,eB,eI,eL])) ?_
 replace h:=bind_some h
 obtain ⟨e69,h,h69⟩:=h
 refine Qm (fun b69:List Int=>⟨[(1,.adr 0 0 0),(2,.adr 1 0 0),(5,.own 2 0 b1.length),(10,.adr 3 0 0)],[(0,.mix 14 [(Mnd.cells true m_)]),(1,.mix 5 [[.val (.int .i64 0),.val (.slice none 0 0),.val (.slice none 0 0),.val (.slice none 0 0),.val (.slice none 0 0)]]),(2,.row 1 (Ls b1)),(3,.mix 5 [[.val (.int .i64 m_.f.s.n),.own 4 0 v67.length,.own 5 0 v68.length,.own 6 0 b69.length,.own 7 0 0]]),(4,.row 1 (Is v67)),(5,.row 1 (Is v68)),(6,.row 1 (Is b69)),(7,.mix 1 [])],8⟩) (fun b69=>b69=e69) ?_ ?_
 ·refine Qf ?_
  refine Qy h (fun s75:List Int × Int=>⟨[(1,.adr 0 0 0),(2,.adr 1 0 0),(4,.adr 2 0 0),(5,.own 3 0 b1.length),(10,.adr 4 0 0),(11,.val (.int .i64 s75.2))],[(0,.mix 14 [(Mnd.cells true m_)]),(1,.mix 5 [[.val (.int .i64 0),.val (.slice none 0 0),.val (.slice none 0 0),.val (.slice none 0 0),.val (.slice none 0 0)]]),(2,.mix 5 [(Cat.cells true m_.f.s)]),(3,.row 1 (Ls b1)),(4,.mix 5 [[.val (.int .i64 m_.f.s.n),.own 5 0 v67.length,.own 6 0 v68.length,.own 7 0 s75.1.length,.own 8 0 0]]),(5,.row 1 (Is v67)),(6,.row 1 (Is v68)),(7,.row 1 (Is s75.1)),(8,.mix 1 [])],9⟩) (Q3h ⟨[(1,.adr 0 0 0),(2,.adr 1 0 0),(4,.adr 2 0 0),(5,.own 3 0 b1.length),(10,.adr 4 0 0),(11,.val (.int .i64 0))],[(0,.mix 14 [(Mnd.cells true m_)]),(1,.mix 5 [[.val (.int .i64 0),.val (.slice none 0 0),.val (.slice none 0 0),.val (.slice none 0 0),.val (.slice none 0 0)]]),(2,.mix 5 [(Cat.cells true m_.f.s)]),(3,.row 1 (Ls b1)),(4,.mix 5 [[.val (.int .i64 m_.f.s.n),.own 5 0 v67.length,.own 6 0 v68.length,.own 7 0 0,.own 8 0 0]]),(5,.row 1 (Is v67)),(6,.row 1 (Is v68)),(7,.row 1 (Is [])),(8,.mix 1 [])],9⟩ (Wk.nils [] (by simp) (by simp) (by simp [nlA]) (by simp [entN,nlL,nlA,Cat.cells,Mnd.cells,UA,U1,IA,I1,LA,L1,BA,B1,EA,E1,E2,eB,eI,eL]) (by simp)) (Wk.r1 [(0,0),(1,1),(2,2),(3,3),(4,4),(5,5),(6,6),(7,7),(8,8)] (by simp [hP,hhOk,back,Cat.cells,Mnd.cells,UA,U1,IA,I1,LA,L1,BA,B1,EA,E1,E2,eB,eI,eL]))) ?_
  clear h
  intro k75 s75 c75 h hk75
  refine Q6 ?_
  refine Q6 ?_
  refine runQ hN fun K hK=>?_
  simp [-Q0,-Q8,-Q3,-Q9,-Q4,eL,eI,Q1,Q5,Qc,Cat.cells,Mnd.cells]
  repeat with_reducible refine sdQ ?_
  refine hK _ ?_;clear hK K
  refine tn ?_
  refine Qa (st':=⟨[(1,.adr 0 0 0),(2,.adr 1 0 0),(4,.adr 2 0 0),(5,.own 3 0 b1.length),(10,.adr 4 0 0),(11,.val (.int .i64 s75.2)),(71,.val (.bool (decide (s75.2<m_.f.s.n))))],[(0,.mix 14 [(Mnd.cells true m_)]),(1,.mix 5 [[.val (.int .i64 0),.val (.slice none 0 0),.val (.slice none 0 0),.val (.slice none 0 0),.val (.slice none 0 0)]]),(2,.mix 5 [(Cat.cells true m_.f.s)]),(3,.row 1 (Ls b1)),(4,.mix 5 [[.val (.int .i64 m_.f.s.n),.own 5 0 v67.length,.own 6 0 v68.length,.own 7 0 s75.1.length,.own 8 0 0]]),(5,.row 1 (Is v67)),(6,.row 1 (Is v68)),(7,.row 1 (Is s75.1)),(8,.mix 1 [])],9⟩) (Wk.r1 [(0,0),(1,1),(2,2),(3,3),(4,4),(5,5),(6,6),(7,7),(8,8)] (by simp [hP,hhOk,back,Cat.cells,Mnd.cells,UA,U1,IA,I1,LA,L1,BA,B1,EA,E1,E2,eB,eI,eL])) ?_
  refine Qg rfl (fun g=>?_) fun g=>?_
  ·have g76:s75.2<m_.f.s.n:=gQ
   clear g
   replace h:=if_l g76 h
   refine Qh ?_
   refine tn ?_
   refine Q6 ?_
   refine Qf ?_
   refine runQ hN fun K hK=>?_
   replace h:=Q7 h
   obtain ⟨a77,h⟩:=h
   simp [-Q0,-Q8,-Q3,-Q9,-Q4,eL,eI,Q1,Q5,Qc,Cat.cells,Mnd.cells,at_I a77]
   repeat with_reducible refine sdQ ?_
   replace h:=bind_some h
   obtain ⟨v78,hv78,h⟩:=h
   refine Q2 (Q3g _ _ v78 hv78) (.cons (.whole (by simp) (by simp) (by simp)) (.cons (.lits (es:=_) rfl (.cons rfl (.cons .val .nil) (.cons rfl (.cons .val .nil) (.cons rfl (.cons .val .nil) .nil))) rfl) .nil)) ?_
   replace h:=Q7 h
   obtain ⟨a79,h⟩:=h
   try simp only [List.length_append,List.length_cons,List.length_nil] at a79
   simp [-Q0,-Q8,-Q3,-Q9,-Q4,unk,unA,unE,unT,unC,flat,eL,eI,Q1,Q5,Qc,Cat.cells,Mnd.cells,at_I a77,a79]
   repeat with_reducible refine sdQ ?_
   refine hK _ ?_;clear hK K
   refine bn ?_
   refine tn ?_
   refine Qa (st':=⟨[(1,.adr 0 0 0),(2,.adr 1 0 0),(4,.adr 2 0 0),(5,.own 3 0 b1.length),(10,.adr 4 0 0),(11,.val (.int .i64 s75.2))],[(0,.mix 14 [(Mnd.cells true m_)]),(1,.mix 5 [[.val (.int .i64 0),.val (.slice none 0 0),.val (.slice none 0 0),.val (.slice none 0 0),.val (.slice none 0 0)]]),(2,.mix 5 [(Cat.cells true m_.f.s)]),(3,.row 1 (Ls b1)),(4,.mix 5 [[.val (.int .i64 m_.f.s.n),.own 5 0 v67.length,.own 6 0 v68.length,.own 7 0 ((s75.1++[v78]).length),.own 8 0 0]]),(5,.row 1 (Is v67)),(6,.row 1 (Is v68)),(7,.row 1 (Is (s75.1++[v78]))),(8,.mix 1 [])],9⟩) (Wk.r1 [(0,0),(1,1),(2,2),(3,3),(4,4),(5,5),(6,6),(12,7),(8,8)] (by simp [hP,hhOk,back,Cat.cells,Mnd.cells,UA,U1,IA,I1,LA,L1,BA,B1,EA,E1,E2,eB,eI,eL])) ?_
   refine runQ hN fun K hK=>?_
   replace h:=Q7 h
   obtain ⟨a80,h⟩:=h
   simp [-Q0,-Q8,-Q3,-Q9,-Q4,eL,eI,Q1,Q5,Qc,Cat.cells,Mnd.cells,Qw a80]
   repeat with_reducible refine sdQ ?_
   refine hK _ ?_;clear hK K
   cases h
   exact rn (s':=(s75.1++[v78],s75.2+1)) hk75 (Wk.r1 [(0,0),(1,1),(2,2),(3,3),(4,4),(5,5),(6,6),(7,7),(8,8)] (by simp [hP,hhOk,back,Cat.cells,Mnd.cells,UA,U1,IA,I1,LA,L1,BA,B1,EA,E1,E2,eB,eI,eL]))
  have g76:¬ (s75.2<m_.f.s.n):=gQ
  clear g
  replace h:=if_r g76 h
  refine Qp ?_
  refine tx ?_
  refine lx ?_
  refine bh ?_
  cases h
  exact jn (b:=s75.1) hk75 (Wk.r1 [(0,0),(1,1),(3,2),(4,3),(5,4),(6,5),(7,6),(8,7)] (by simp [hP,hhOk,back,Cat.cells,Mnd.cells,UA,U1,IA,I1,LA,L1,BA,B1,EA,E1,E2,eB,eI,eL]))
 intro b69 hb69
 have h:=h69
 rw [← hb69] at h
 clear h69
 try dsimp only at h
 refine Q6 ?_
 refine Q6 ?_
 refine runQ hN fun K hK=>?_
 simp [-Q0,-Q8,-Q3,-Q9,-Q4,eL,eI,Q1,Q5,Qc,Cat.cells,Mnd.cells]
 repeat with_reducible refine sdQ ?_
 refine hK _ ?_;clear hK K
 refine tn ?_
 refine Qa (st':=⟨[(1,.adr 0 0 0),(2,.adr 1 0 0),(5,.own 2 0 b1.length),(10,.adr 3 0 0),(12,.val (.int .i64 0))],[(0,.mix 14 [(Mnd.cells true m_)]),(1,.mix 5 [[.val (.int .i64 0),.val (.slice none 0 0),.val (.slice none 0 0),.val (.slice none 0 0),.val (.slice none 0 0)]]),(2,.row 1 (Ls b1)),(3,.mix 5 [[.val (.int .i64 m_.f.s.n),.own 4 0 v67.length,.own 5 0 v68.length,.own 6 0 b69.length,.own 7 0 0]]),(4,.row 1 (Is v67)),(5,.row 1 (Is v68)),(6,.row 1 (Is b69)),(7,.mix 1 [])],8⟩) (Wk.r1 [(0,0),(1,1),(2,2),(3,3),(4,4),(5,5),(6,6),(7,7)] (by simp [hP,hhOk,back,Cat.cells,Mnd.cells,UA,U1,IA,I1,LA,L1,BA,B1,EA,E1,E2,eB,eI,eL])) ?_
 replace h:=bind_some h
 obtain ⟨e81,h,h81⟩:=h
 refine Qm (fun b81:List (List Int)=>⟨[(2,.adr 0 0 0),(5,.own 1 0 b1.length),(10,.adr 2 0 0)],[(0,.mix 5 [[.val (.int .i64 0),.val (.slice none 0 0),.val (.slice none 0 0),.val (.slice none 0 0),.val (.slice none 0 0)]]),(1,.row 1 (Ls b1)),(2,.mix 5 [[.val (.int .i64 m_.f.s.n),.own 3 0 v67.length,.own 4 0 v68.length,.own 5 0 b69.length,.own 6 0 b81.length]]),(3,.row 1 (Is v67)),(4,.row 1 (Is v68)),(5,.row 1 (Is b69)),(6,.row 1 (Ls b81))],7⟩) (fun b81=>b81=e81) ?_ ?_
 ·refine Qf ?_
  refine Qy h (fun s122:List (List Int) × Int=>⟨[(1,.adr 0 0 0),(2,.adr 1 0 0),(5,.own 2 0 b1.length),(10,.adr 3 0 0),(12,.val (.int .i64 s122.2))],[(0,.mix 14 [(Mnd.cells true m_)]),(1,.mix 5 [[.val (.int .i64 0),.val (.slice none 0 0),.val (.slice none 0 0),.val (.slice none 0 0),.val (.slice none 0 0)]]),(2,.row 1 (Ls b1)),(3,.mix 5 [[.val (.int .i64 m_.f.s.n),.own 4 0 v67.length,.own 5 0 v68.length,.own 6 0 b69.length,.own 7 0 s122.1.length]]),(4,.row 1 (Is v67)),(5,.row 1 (Is v68)),(6,.row 1 (Is b69)),(7,.row 1 (Ls s122.1))],8⟩) (Q3h ⟨[(1,.adr 0 0 0),(2,.adr 1 0 0),(5,.own 2 0 b1.length),(10,.adr 3 0 0),(12,.val (.int .i64 0))],[(0,.mix 14 [(Mnd.cells true m_)]),(1,.mix 5 [[.val (.int .i64 0),.val (.slice none 0 0),.val (.slice none 0 0),.val (.slice none 0 0),.val (.slice none 0 0)]]),(2,.row 1 (Ls b1)),(3,.mix 5 [[.val (.int .i64 m_.f.s.n),.own 4 0 v67.length,.own 5 0 v68.length,.own 6 0 b69.length,.own 7 0 0]]),(4,.row 1 (Is v67)),(5,.row 1 (Is v68)),(6,.row 1 (Is b69)),(7,.row 1 (Ls []))],8⟩ (Wk.nils [] (by simp) (by simp) (by simp [nlA]) (by simp [entN,nlL,nlA,Cat.cells,Mnd.cells,UA,U1,IA,I1,LA,L1,BA,B1,EA,E1,E2,eB,eI,eL]) (by simp)) (Wk.r1 [(0,0),(1,1),(2,2),(3,3),(4,4),(5,5),(6,6),(7,7)] (by simp [hP,hhOk,back,Cat.cells,Mnd.cells,UA,U1,IA,I1,LA,L1,BA,B1,EA,E1,E2,eB,eI,eL]))) ?_
  clear h
  intro k122 s122 c122 h hk122
  refine Q6 ?_
  refine Q6 ?_
  replace h:=bind_some h
  obtain ⟨e123,h,h123⟩:=h
  refine Qm (fun b123:Bool=>⟨[(1,.adr 0 0 0),(2,.adr 1 0 0),(5,.own 2 0 b1.length),(10,.adr 3 0 0),(12,.val (.int .i64 s122.2)),(96,.val (.bool b123))],[(0,.mix 14 [(Mnd.cells true m_)]),(1,.mix 5 [[.val (.int .i64 0),.val (.slice none 0 0),.val (.slice none 0 0),.val (.slice none 0 0),.val (.slice none 0 0)]]),(2,.row 1 (Ls b1)),(3,.mix 5 [[.val (.int .i64 m_.f.s.n),.own 4 0 v67.length,.own 5 0 v68.length,.own 6 0 b69.length,.own 7 0 s122.1.length]]),(4,.row 1 (Is v67)),(5,.row 1 (Is v68)),(6,.row 1 (Is b69)),(7,.row 1 (Ls s122.1))],8⟩) (fun b123=>b123=e123) ?_ ?_
  ·refine runQ hN fun K hK=>?_
   simp [-Q0,-Q8,-Q3,-Q9,-Q4,eL,eI,Q1,Q5,Qc,Cat.cells,Mnd.cells]
   repeat with_reducible refine sdQ ?_
   refine Qq (fun g=>?_) (fun g=>?_)
   ·have g124:s122.2<(b1.length:Int):=gQ
    clear g
    replace h:=if_l g124 h
    simp [-Q0,-Q8,-Q3,-Q9,-Q4,eL,eI,Q1,Q5,Qc,Cat.cells,Mnd.cells]
    repeat with_reducible refine sdQ ?_
    replace h:=bind_some h
    obtain ⟨v125,hv125,h⟩:=h
    refine Q2 (Q5u _ v125 hv125) (.cons (.aggL (.cons .val (.cons (.whole (by simp) (by simp) (by simp)) (.cons (.whole (by simp) (by simp) (by simp)) (.cons (.whole (by simp) (by simp) (by simp)) (.cons (.whole (by simp) (by simp) (by simp)) .nil)))))) .nil) ?_
    simp [-Q0,-Q8,-Q3,-Q9,-Q4,unk,unA,unE,unT,unC,flat,eL,eI,Q1,Q5,Qc,Cat.cells,Mnd.cells]
    repeat with_reducible refine sdQ ?_
    refine hK _ ?_
    exact jn (b:=v125) (Option.some.inj h) (Wk.r1 [(0,0),(1,1),(2,2),(3,3),(4,4),(5,5),(6,6),(7,7)] (by simp [hP,hhOk,back,Cat.cells,Mnd.cells,UA,U1,IA,I1,LA,L1,BA,B1,EA,E1,E2,eB,eI,eL]))
   have g124:¬ (s122.2<(b1.length:Int)):=gQ
   clear g
   replace h:=if_r g124 h
   simp [-Q0,-Q8,-Q3,-Q9,-Q4,eL,eI,Q1,Q5,Qc,Cat.cells,Mnd.cells]
   repeat with_reducible refine sdQ ?_
   refine hK _ ?_
   exact jn (b:=false) (Option.some.inj h) (Wk.r1 [(0,0),(1,1),(2,2),(3,3),(4,4),(5,5),(6,6),(7,7)] (by simp [hP,hhOk,back,Cat.cells,Mnd.cells,UA,U1,IA,I1,LA,L1,BA,B1,EA,E1,E2,eB,eI,eL]))
  intro b123 hb123
  have h:=h123
  rw [← hb123] at h
  clear h123
  try dsimp only at h
  refine Qg rfl (fun g=>?_) fun g=>?_
  ·have g126:b123=true:=gQ
   clear g
   replace h:=if_l g126 h
   refine Qh ?_
   refine tn ?_
   refine Q6 ?_
   refine Qf ?_
   refine Q6 ?_
   refine runQ hN fun K hK=>?_
   simp [-Q0,-Q8,-Q3,-Q9,-Q4,eL,eI,Q1,Q5,Qc,Cat.cells,Mnd.cells]
   repeat with_reducible refine sdQ ?_
   refine hK _ ?_;clear hK K
   refine tn ?_
   refine Qa (st':=⟨[(1,.adr 0 0 0),(2,.adr 1 0 0),(5,.own 2 0 b1.length),(10,.adr 3 0 0),(12,.val (.int .i64 s122.2)),(13,.own 8 0 0)],[(0,.mix 14 [(Mnd.cells true m_)]),(1,.mix 5 [[.val (.int .i64 0),.val (.slice none 0 0),.val (.slice none 0 0),.val (.slice none 0 0),.val (.slice none 0 0)]]),(2,.row 1 (Ls b1)),(3,.mix 5 [[.val (.int .i64 m_.f.s.n),.own 4 0 v67.length,.own 5 0 v68.length,.own 6 0 b69.length,.own 7 0 s122.1.length]]),(4,.row 1 (Is v67)),(5,.row 1 (Is v68)),(6,.row 1 (Is b69)),(7,.row 1 (Ls s122.1)),(8,.mix 1 [])],9⟩) (Wk.r1 [(0,0),(1,1),(2,2),(3,3),(4,4),(5,5),(6,6),(7,7),(8,8)] (by simp [hP,hhOk,back,Cat.cells,Mnd.cells,UA,U1,IA,I1,LA,L1,BA,B1,EA,E1,E2,eB,eI,eL])) ?_
   refine Q6 ?_
   refine Q6 ?_
   refine runQ hN fun K hK=>?_
   simp [-Q0,-Q8,-Q3,-Q9,-Q4,eL,eI,Q1,Q5,Qc,Cat.cells,Mnd.cells]
   repeat with_reducible refine sdQ ?_
   refine hK _ ?_;clear hK K
   refine tn ?_
   refine Qa (st':=⟨[(1,.adr 0 0 0),(2,.adr 1 0 0),(5,.own 2 0 b1.length),(10,.adr 3 0 0),(12,.val (.int .i64 s122.2)),(13,.own 8 0 0),(14,.val (.int .i64 0))],[(0,.mix 14 [(Mnd.cells true m_)]),(1,.mix 5 [[.val (.int .i64 0),.val (.slice none 0 0),.val (.slice none 0 0),.val (.slice none 0 0),.val (.slice none 0 0)]]),(2,.row 1 (Ls b1)),(3,.mix 5 [[.val (.int .i64 m_.f.s.n),.own 4 0 v67.length,.own 5 0 v68.length,.own 6 0 b69.length,.own 7 0 s122.1.length]]),(4,.row 1 (Is v67)),(5,.row 1 (Is v68)),(6,.row 1 (Is b69)),(7,.row 1 (Ls s122.1)),(8,.mix 1 [])],9⟩) (Wk.r1 [(0,0),(1,1),(2,2),(3,3),(4,4),(5,5),(6,6),(7,7),(8,8)] (by simp [hP,hhOk,back,Cat.cells,Mnd.cells,UA,U1,IA,I1,LA,L1,BA,B1,EA,E1,E2,eB,eI,eL])) ?_
   replace h:=bind_some h
   obtain ⟨e127,h,h127⟩:=h
   refine Qm (fun b127:List Int=>⟨[(1,.adr 0 0 0),(2,.adr 1 0 0),(5,.own 2 0 b1.length),(10,.adr 3 0 0),(12,.val (.int .i64 s122.2)),(13,.own 8 0 b127.length)],[(0,.mix 14 [(Mnd.cells true m_)]),(1,.mix 5 [[.val (.int .i64 0),.val (.slice none 0 0),.val (.slice none 0 0),.val (.slice none 0 0),.val (.slice none 0 0)]]),(2,.row 1 (Ls b1)),(3,.mix 5 [[.val (.int .i64 m_.f.s.n),.own 4 0 v67.length,.own 5 0 v68.length,.own 6 0 b69.length,.own 7 0 s122.1.length]]),(4,.row 1 (Is v67)),(5,.row 1 (Is v68)),(6,.row 1 (Is b69)),(7,.row 1 (Ls s122.1)),(8,.row 1 (Is b127))],9⟩) (fun b127=>b127=e127) ?_ ?_
   ·refine Qf ?_
    refine Qy h (fun s144:List Int × Int=>⟨[(1,.adr 0 0 0),(2,.adr 1 0 0),(5,.own 2 0 b1.length),(10,.adr 3 0 0),(12,.val (.int .i64 s122.2)),(13,.own 8 0 s144.1.length),(14,.val (.int .i64 s144.2))],[(0,.mix 14 [(Mnd.cells true m_)]),(1,.mix 5 [[.val (.int .i64 0),.val (.slice none 0 0),.val (.slice none 0 0),.val (.slice none 0 0),.val (.slice none 0 0)]]),(2,.row 1 (Ls b1)),(3,.mix 5 [[.val (.int .i64 m_.f.s.n),.own 4 0 v67.length,.own 5 0 v68.length,.own 6 0 b69.length,.own 7 0 s122.1.length]]),(4,.row 1 (Is v67)),(5,.row 1 (Is v68)),(6,.row 1 (Is b69)),(7,.row 1 (Ls s122.1)),(8,.row 1 (Is s144.1))],9⟩) (Q3h ⟨[(1,.adr 0 0 0),(2,.adr 1 0 0),(5,.own 2 0 b1.length),(10,.adr 3 0 0),(12,.val (.int .i64 s122.2)),(13,.own 8 0 0),(14,.val (.int .i64 0))],[(0,.mix 14 [(Mnd.cells true m_)]),(1,.mix 5 [[.val (.int .i64 0),.val (.slice none 0 0),.val (.slice none 0 0),.val (.slice none 0 0),.val (.slice none 0 0)]]),(2,.row 1 (Ls b1)),(3,.mix 5 [[.val (.int .i64 m_.f.s.n),.own 4 0 v67.length,.own 5 0 v68.length,.own 6 0 b69.length,.own 7 0 s122.1.length]]),(4,.row 1 (Is v67)),(5,.row 1 (Is v68)),(6,.row 1 (Is b69)),(7,.row 1 (Ls s122.1)),(8,.row 1 (Is []))],9⟩ (Wk.nils [] (by simp) (by simp) (by simp [nlA]) (by simp [entN,nlL,nlA,Cat.cells,Mnd.cells,UA,U1,IA,I1,LA,L1,BA,B1,EA,E1,E2,eB,eI,eL]) (by simp)) (Wk.r1 [(0,0),(1,1),(2,2),(3,3),(4,4),(5,5),(6,6),(7,7),(8,8)] (by simp [hP,hhOk,back,Cat.cells,Mnd.cells,UA,U1,IA,I1,LA,L1,BA,B1,EA,E1,E2,eB,eI,eL]))) ?_
    clear h
    intro k144 s144 c144 h hk144
    refine Q6 ?_
    refine Q6 ?_
    refine runQ hN fun K hK=>?_
    simp [-Q0,-Q8,-Q3,-Q9,-Q4,eL,eI,Q1,Q5,Qc,Cat.cells,Mnd.cells]
    repeat with_reducible refine sdQ ?_
    refine hK _ ?_;clear hK K
    refine tn ?_
    refine Qa (st':=⟨[(1,.adr 0 0 0),(2,.adr 1 0 0),(5,.own 2 0 b1.length),(10,.adr 3 0 0),(12,.val (.int .i64 s122.2)),(13,.own 8 0 s144.1.length),(14,.val (.int .i64 s144.2)),(103,.val (.bool (decide (s144.2<(b1.length:Int)))))],[(0,.mix 14 [(Mnd.cells true m_)]),(1,.mix 5 [[.val (.int .i64 0),.val (.slice none 0 0),.val (.slice none 0 0),.val (.slice none 0 0),.val (.slice none 0 0)]]),(2,.row 1 (Ls b1)),(3,.mix 5 [[.val (.int .i64 m_.f.s.n),.own 4 0 v67.length,.own 5 0 v68.length,.own 6 0 b69.length,.own 7 0 s122.1.length]]),(4,.row 1 (Is v67)),(5,.row 1 (Is v68)),(6,.row 1 (Is b69)),(7,.row 1 (Ls s122.1)),(8,.row 1 (Is s144.1))],9⟩) (Wk.r1 [(0,0),(1,1),(2,2),(3,3),(4,4),(5,5),(6,6),(7,7),(8,8)] (by simp [hP,hhOk,back,Cat.cells,Mnd.cells,UA,U1,IA,I1,LA,L1,BA,B1,EA,E1,E2,eB,eI,eL])) ?_
    refine Qg rfl (fun g=>?_) fun g=>?_
    ·have g145:s144.2<(b1.length:Int):=gQ
     clear g
     replace h:=if_l g145 h
     refine Qh ?_
     refine tn ?_
     refine Q6 ?_
     refine Qf ?_
     refine Q6 ?_
     refine runQ hN fun K hK=>?_
     replace h:=Q7 h
     obtain ⟨a146,h⟩:=h
     replace h:=Q7 h
     obtain ⟨a147,h⟩:=h
     simp [-Q0,-Q8,-Q3,-Q9,-Q4,eL,eI,Q1,Q5,Qc,Cat.cells,Mnd.cells,at_L a146,at_L a147]
     repeat with_reducible refine sdQ ?_
     refine hK _ ?_;clear hK K
     refine tn ?_
     refine Qa (st':=⟨[(1,.adr 0 0 0),(2,.adr 1 0 0),(5,.own 2 0 b1.length),(10,.adr 3 0 0),(12,.val (.int .i64 s122.2)),(13,.own 8 0 s144.1.length),(14,.val (.int .i64 s144.2)),(15,.own 9 0 ((rx b1 s122.2).length)),(16,.own 10 0 ((rx b1 s144.2).length))],[(0,.mix 14 [(Mnd.cells true m_)]),(1,.mix 5 [[.val (.int .i64 0),.val (.slice none 0 0),.val (.slice none 0 0),.val (.slice none 0 0),.val (.slice none 0 0)]]),(2,.row 1 (Ls b1)),(3,.mix 5 [[.val (.int .i64 m_.f.s.n),.own 4 0 v67.length,.own 5 0 v68.length,.own 6 0 b69.length,.own 7 0 s122.1.length]]),(4,.row 1 (Is v67)),(5,.row 1 (Is v68)),(6,.row 1 (Is b69)),(7,.row 1 (Ls s122.1)),(8,.row 1 (Is s144.1)),(9,.ali 2 s122.2.toNat 0 1),(10,.ali 2 s144.2.toNat 0 1)],11⟩) (Wk.r1 [(0,0),(1,1),(2,2),(3,3),(4,4),(5,5),(6,6),(7,7),(8,8),(9,9),(10,10)] (by simp [hP,hhOk,back,Cat.cells,Mnd.cells,UA,U1,IA,I1,LA,L1,BA,B1,EA,E1,E2,eB,eI,eL])) ?_
     refine Q6 ?_
     refine runQ hN fun K hK=>?_
     simp [-Q0,-Q8,-Q3,-Q9,-Q4,eL,eI,Q1,Q5,Qc,Cat.cells,Mnd.cells]
     repeat with_reducible refine sdQ ?_
     refine hK _ ?_;clear hK K
     refine tn ?_
     refine Qa (st':=⟨[(1,.adr 0 0 0),(2,.adr 1 0 0),(5,.own 2 0 b1.length),(10,.adr 3 0 0),(12,.val (.int .i64 s122.2)),(13,.own 8 0 s144.1.length),(14,.val (.int .i64 s144.2)),(15,.own 9 0 ((rx b1 s122.2).length)),(16,.own 10 0 ((rx b1 s144.2).length)),(17,.val (.int .i64 (-1)))],[(0,.mix 14 [(Mnd.cells true m_)]),(1,.mix 5 [[.val (.int .i64 0),.val (.slice none 0 0),.val (.slice none 0 0),.val (.slice none 0 0),.val (.slice none 0 0)]]),(2,.row 1 (Ls b1)),(3,.mix 5 [[.val (.int .i64 m_.f.s.n),.own 4 0 v67.length,.own 5 0 v68.length,.own 6 0 b69.length,.own 7 0 s122.1.length]]),(4,.row 1 (Is v67)),(5,.row 1 (Is v68)),(6,.row 1 (Is b69)),(7,.row 1 (Ls s122.1)),(8,.row 1 (Is s144.1)),(9,.ali 2 s122.2.toNat 0 1),(10,.ali 2 s144.2.toNat 0 1)],11⟩) (Wk.r1 [(0,0),(1,1),(2,2),(3,3),(4,4),(5,5),(6,6),(7,7),(8,8),(9,9),(10,10)] (by simp [hP,hhOk,back,Cat.cells,Mnd.cells,UA,U1,IA,I1,LA,L1,BA,B1,EA,E1,E2,eB,eI,eL])) ?_
     refine Q6 ?_
     refine Q6 ?_
     refine runQ hN fun K hK=>?_
     replace h:=Q7 h
     obtain ⟨a148,h⟩:=h
     replace h:=Q7 h
     obtain ⟨a149,h⟩:=h
     simp [-Q0,-Q8,-Q3,-Q9,-Q4,eL,eI,Q1,Q5,Qc,Cat.cells,Mnd.cells,at_L a146,(show (Is (rx b1 s122.2))[1]? = some [.val (.int .i64 (ix (rx b1 s122.2) 1))] from at_I (j:=1) a148),at_L a147,(show (Is (rx b1 s144.2))[0]? = some [.val (.int .i64 (ix (rx b1 s144.2) 0))] from at_I (j:=0) a149)]
     repeat with_reducible refine sdQ ?_
     refine hK _ ?_;clear hK K
     refine tn ?_
     refine Qa (st':=⟨[(1,.adr 0 0 0),(2,.adr 1 0 0),(5,.own 2 0 b1.length),(10,.adr 3 0 0),(12,.val (.int .i64 s122.2)),(13,.own 8 0 s144.1.length),(14,.val (.int .i64 s144.2)),(15,.own 9 0 ((rx b1 s122.2).length)),(16,.own 10 0 ((rx b1 s144.2).length)),(17,.val (.int .i64 (-1))),(120,.val (.bool ((ix (rx b1 s122.2) 1) == (ix (rx b1 s144.2) 0))))],[(0,.mix 14 [(Mnd.cells true m_)]),(1,.mix 5 [[.val (.int .i64 0),.val (.slice none 0 0),.val (.slice none 0 0),.val (.slice none 0 0),.val (.slice none 0 0)]]),(2,.row 1 (Ls b1)),(3,.mix 5 [[.val (.int .i64 m_.f.s.n),.own 4 0 v67.length,.own 5 0 v68.length,.own 6 0 b69.length,.own 7 0 s122.1.length]]),(4,.row 1 (Is v67)),(5,.row 1 (Is v68)),(6,.row 1 (Is b69)),(7,.row 1 (Ls s122.1)),(8,.row 1 (Is s144.1)),(9,.ali 2 s122.2.toNat 0 1),(10,.ali 2 s144.2.toNat 0 1)],11⟩) (Wk.r1 [(0,0),(1,1),(2,2),(3,3),(4,4),(5,5),(6,6),(7,7),(8,8),(9,9),(10,10)] (by simp [hP,hhOk,back,Cat.cells,Mnd.cells,UA,U1,IA,I1,LA,L1,BA,B1,EA,E1,E2,eB,eI,eL])) ?_
     replace h:=bind_some h
     obtain ⟨e150,h,h150⟩:=h
     refine Qm (fun b150:Int=>⟨[(1,.adr 0 0 0),(2,.adr 1 0 0),(5,.own 2 0 b1.length),(10,.adr 3 0 0),(12,.val (.int .i64 s122.2)),(13,.own 8 0 s144.1.length),(14,.val (.int .i64 s144.2)),(17,.val (.int .i64 b150))],[(0,.mix 14 [(Mnd.cells true m_)]),(1,.mix 5 [[.val (.int .i64 0),.val (.slice none 0 0),.val (.slice none 0 0),.val (.slice none 0 0),.val (.slice none 0 0)]]),(2,.row 1 (Ls b1)),(3,.mix 5 [[.val (.int .i64 m_.f.s.n),.own 4 0 v67.length,.own 5 0 v68.length,.own 6 0 b69.length,.own 7 0 s122.1.length]]),(4,.row 1 (Is v67)),(5,.row 1 (Is v68)),(6,.row 1 (Is b69)),(7,.row 1 (Ls s122.1)),(8,.row 1 (Is s144.1))],9⟩) (fun b150=>b150=e150) ?_ ?_
     ·refine Qg rfl (fun g=>?_) fun g=>?_
      ·have g151:(ix (rx b1 s122.2) 1)=(ix (rx b1 s144.2) 0):=gQ
       clear g
       replace h:=if_l g151 h
       refine runQ hN fun K hK=>?_
       replace h:=Q7 h
       obtain ⟨a152,h⟩:=h
       replace h:=Q7 h
       obtain ⟨a153,h⟩:=h
       replace h:=Q7 h
       obtain ⟨a154,h⟩:=h
       replace h:=Q7 h
       obtain ⟨a155,h⟩:=h
       replace h:=Q7 h
       obtain ⟨a156,h⟩:=h
       simp [-Q0,-Q8,-Q3,-Q9,-Q4,eL,eI,Q1,Q5,Qc,Cat.cells,Mnd.cells,at_L a146,(show (Is (rx b1 s122.2))[0]? = some [.val (.int .i64 (ix (rx b1 s122.2) 0))] from at_I (j:=0) a152),at_L a147,(show (Is (rx b1 s144.2))[1]? = some [.val (.int .i64 (ix (rx b1 s144.2) 1))] from at_I (j:=1) a153),(show (Is (rx b1 s144.2))[1]? = some [.val (.int .i64 (ix (rx b1 s144.2) 1))] from at_I (j:=1) a154),(show (Is (rx b1 s122.2))[2]? = some [.val (.int .i64 (ix (rx b1 s122.2) 2))] from at_I (j:=2) a155),(show (Is (rx b1 s144.2))[2]? = some [.val (.int .i64 (ix (rx b1 s144.2) 2))] from at_I (j:=2) a156)]
       repeat with_reducible refine sdQ ?_
       replace h:=bind_some h
       obtain ⟨v157,hv157,h⟩:=h
       refine Q2 (Q7W _ _ _ _ v157 hv157) (.cons (.aggL (.cons .val (.cons .lst (.cons .lst (.cons .lst (.cons .lst (.cons .val (.cons .lst (.cons .lst (.cons .lst (.cons .lst (.cons .lst (.cons .lst (.cons .lst (.cons .lst .nil))))))))))))))) (.cons .val (.cons .val (.cons .val .nil)))) ?_
       simp [-Q0,-Q8,-Q3,-Q9,-Q4,unk,unA,unE,unT,unC,flat,eL,eI,Q1,Q5,Qc,Cat.cells,Mnd.cells,at_L a146,at_L a147]
       repeat with_reducible refine sdQ ?_
       replace h:=bind_some h
       obtain ⟨v158,hv158,h⟩:=h
       refine Q2 (Q3g _ _ v158 hv158) (.cons (.whole (by simp) (by simp) (by simp)) (.cons (.lits (es:=_) rfl (.cons rfl (.cons .val .nil) (.cons rfl (.cons .val .nil) (.cons rfl (.cons .val .nil) .nil))) rfl) .nil)) ?_
       simp [-Q0,-Q8,-Q3,-Q9,-Q4,unk,unA,unE,unT,unC,flat,eL,eI,Q1,Q5,Qc,Cat.cells,Mnd.cells,at_L a146,at_L a147]
       repeat with_reducible refine sdQ ?_
       refine hK _ ?_;clear hK K
       exact jn (b:=v158) (Option.some.inj h) (Wk.r1 [(0,0),(1,1),(2,2),(3,3),(4,4),(5,5),(6,6),(7,7),(8,8)] (by simp [hP,hhOk,back,Cat.cells,Mnd.cells,UA,U1,IA,I1,LA,L1,BA,B1,EA,E1,E2,eB,eI,eL]))
      have g151:¬ ((ix (rx b1 s122.2) 1)=(ix (rx b1 s144.2) 0)):=gQ
      clear g
      replace h:=if_r g151 h
      refine Qh ?_
      exact jn (b:=(-1)) (Option.some.inj h) (Wk.r1 [(0,0),(1,1),(2,2),(3,3),(4,4),(5,5),(6,6),(7,7),(8,8)] (by simp [hP,hhOk,back,Cat.cells,Mnd.cells,UA,U1,IA,I1,LA,L1,BA,B1,EA,E1,E2,eB,eI,eL]))
     intro b150 hb150
     have h:=h150
     rw [← hb150] at h
     clear h150
     try dsimp only at h
     refine runQ hN fun K hK=>?_
     replace h:=Q7 h
     obtain ⟨a159,h⟩:=h
     try simp only [List.length_append,List.length_cons,List.length_nil] at a159
     simp [-Q0,-Q8,-Q3,-Q9,-Q4,eL,eI,Q1,Q5,Qc,Cat.cells,Mnd.cells,a159]
     repeat with_reducible refine sdQ ?_
     refine hK _ ?_;clear hK K
     refine bn ?_
     refine tn ?_
     refine Qa (st':=⟨[(1,.adr 0 0 0),(2,.adr 1 0 0),(5,.own 2 0 b1.length),(10,.adr 3 0 0),(12,.val (.int .i64 s122.2)),(13,.own 8 0 ((s144.1++[b150]).length)),(14,.val (.int .i64 s144.2))],[(0,.mix 14 [(Mnd.cells true m_)]),(1,.mix 5 [[.val (.int .i64 0),.val (.slice none 0 0),.val (.slice none 0 0),.val (.slice none 0 0),.val (.slice none 0 0)]]),(2,.row 1 (Ls b1)),(3,.mix 5 [[.val (.int .i64 m_.f.s.n),.own 4 0 v67.length,.own 5 0 v68.length,.own 6 0 b69.length,.own 7 0 s122.1.length]]),(4,.row 1 (Is v67)),(5,.row 1 (Is v68)),(6,.row 1 (Is b69)),(7,.row 1 (Ls s122.1)),(8,.row 1 (Is (s144.1++[b150])))],9⟩) (Wk.r1 [(0,0),(1,1),(2,2),(3,3),(4,4),(5,5),(6,6),(7,7),(10,8)] (by simp [hP,hhOk,back,Cat.cells,Mnd.cells,UA,U1,IA,I1,LA,L1,BA,B1,EA,E1,E2,eB,eI,eL])) ?_
     refine runQ hN fun K hK=>?_
     replace h:=Q7 h
     obtain ⟨a160,h⟩:=h
     simp [-Q0,-Q8,-Q3,-Q9,-Q4,eL,eI,Q1,Q5,Qc,Cat.cells,Mnd.cells,Qw a160]
     repeat with_reducible refine sdQ ?_
     refine hK _ ?_;clear hK K
     cases h
     exact rn (s':=(s144.1++[b150],s144.2+1)) hk144 (Wk.r1 [(0,0),(1,1),(2,2),(3,3),(4,4),(5,5),(6,6),(7,7),(8,8)] (by simp [hP,hhOk,back,Cat.cells,Mnd.cells,UA,U1,IA,I1,LA,L1,BA,B1,EA,E1,E2,eB,eI,eL]))
    have g145:¬ (s144.2<(b1.length:Int)):=gQ
    clear g
    replace h:=if_r g145 h
    refine Qp ?_
    refine tx ?_
    refine lx ?_
    refine bh ?_
    cases h
    exact jn (b:=s144.1) hk144 (Wk.r1 [(0,0),(1,1),(2,2),(3,3),(4,4),(5,5),(6,6),(7,7),(8,8)] (by simp [hP,hhOk,back,Cat.cells,Mnd.cells,UA,U1,IA,I1,LA,L1,BA,B1,EA,E1,E2,eB,eI,eL]))
   intro b127 hb127
   have h:=h127
   rw [← hb127] at h
   clear h127
   try dsimp only at h
   refine runQ hN fun K hK=>?_
   replace h:=Q7 h
   obtain ⟨a161,h⟩:=h
   try simp only [List.length_append,List.length_cons,List.length_nil] at a161
   simp [-Q0,-Q8,-Q3,-Q9,-Q4,eL,eI,Q1,Q5,Qc,Cat.cells,Mnd.cells,a161]
   repeat with_reducible refine sdQ ?_
   refine hK _ ?_;clear hK K
   refine bn ?_
   refine tn ?_
   refine Qa (st':=⟨[(1,.adr 0 0 0),(2,.adr 1 0 0),(5,.own 2 0 b1.length),(10,.adr 3 0 0),(12,.val (.int .i64 s122.2))],[(0,.mix 14 [(Mnd.cells true m_)]),(1,.mix 5 [[.val (.int .i64 0),.val (.slice none 0 0),.val (.slice none 0 0),.val (.slice none 0 0),.val (.slice none 0 0)]]),(2,.row 1 (Ls b1)),(3,.mix 5 [[.val (.int .i64 m_.f.s.n),.own 4 0 v67.length,.own 5 0 v68.length,.own 6 0 b69.length,.own 7 0 ((s122.1++[b127]).length)]]),(4,.row 1 (Is v67)),(5,.row 1 (Is v68)),(6,.row 1 (Is b69)),(7,.row 1 (Ls (s122.1++[b127])))],8⟩) (Wk.r1 [(0,0),(1,1),(2,2),(3,3),(4,4),(5,5),(6,6),(10,7)] (by simp [hP,hhOk,back,Cat.cells,Mnd.cells,UA,U1,IA,I1,LA,L1,BA,B1,EA,E1,E2,eB,eI,eL])) ?_
   refine runQ hN fun K hK=>?_
   replace h:=Q7 h
   obtain ⟨a162,h⟩:=h
   simp [-Q0,-Q8,-Q3,-Q9,-Q4,eL,eI,Q1,Q5,Qc,Cat.cells,Mnd.cells,Qw a162]
   repeat with_reducible refine sdQ ?_
   refine hK _ ?_;clear hK K
   cases h
   exact rn (s':=(s122.1++[b127],s122.2+1)) hk122 (Wk.r1 [(0,0),(1,1),(2,2),(3,3),(4,4),(5,5),(6,6),(7,7)] (by simp [hP,hhOk,back,Cat.cells,Mnd.cells,UA,U1,IA,I1,LA,L1,BA,B1,EA,E1,E2,eB,eI,eL]))
  have g126:¬ (b123=true):=gQ
  clear g
  replace h:=if_r g126 h
  refine Qp ?_
  refine tx ?_
  refine lx ?_
  refine bh ?_
  cases h
  exact jn (b:=s122.1) hk122 (Wk.r1 [(1,0),(2,1),(3,2),(4,3),(5,4),(6,5),(7,6)] (by simp [hP,hhOk,back,Cat.cells,Mnd.cells,UA,U1,IA,I1,LA,L1,BA,B1,EA,E1,E2,eB,eI,eL]))
 intro b81 hb81
 have h:=h81
 rw [← hb81] at h
 clear h81
 try dsimp only at h
 refine Q6 ?_
 refine runQ hN fun K hK=>?_
 simp [-Q0,-Q8,-Q3,-Q9,-Q4,eL,eI,Q1,Q5,Qc,Cat.cells,Mnd.cells]
 repeat with_reducible refine sdQ ?_
 refine hK _ ?_;clear hK K
 refine tn ?_
 refine Qa (st':=⟨[(2,.adr 0 0 0),(3,.own 5 0 b1.length)],[(0,.mix 5 [[.val (.int .i64 m_.f.s.n),.own 1 0 v67.length,.own 2 0 v68.length,.own 3 0 b69.length,.own 4 0 b81.length]]),(1,.row 1 (Is v67)),(2,.row 1 (Is v68)),(3,.row 1 (Is b69)),(4,.row 1 (Ls b81)),(5,.row 1 (Ls b1))],6⟩) (Wk.r1 [(0,0),(3,1),(4,2),(5,3),(6,4),(1,5)] (by simp [hP,hhOk,back,Cat.cells,Mnd.cells,UA,U1,IA,I1,LA,L1,BA,B1,EA,E1,E2,eB,eI,eL])) ?_
 refine Qk ?_
 have hr:=Option.some.inj h
 rw [← hr]
 refine ⟨_,(.cell Q6q rfl rfl rfl (by simp) (by simp) (.tmp .nil)),?_⟩
 refine ⟨(.agg rfl (.one rfl rfl .nil)),[.val (.int .i64 m_.f.s.n),.lst true 1 (Is v67),.lst true 1 (Is v68),.lst true 1 (Is b69),.lst true 1 (Ls b81),.lst true 1 (Ls b1)],[1,2,3,4,5],by simp [Cat.cells,Mnd.cells,UA,U1,IA,I1,LA,L1,BA,B1,EA,E1,E2,eB,eI,eL],by simp,(UpL.refl _)⟩
end Go.Vc.T
namespace Go.Vc.T
open Go Go.Vc Go.Proofs
noncomputable def Q2B (m_:Mnd):Option (Cat × List (List Int) × Int) :=
 (Q3y m_).bind fun v1 =>
 if ¬ (v1=true) then
  some ((⟨0,[],[],[],[]⟩:Cat),[],1)
 else
  (Q1I m_).bind fun v3 =>
  (Q25 v3.1).bind fun v4 =>
  if ¬ (v4=true) then
   some ((⟨0,[],[],[],[]⟩:Cat),[],3)
  else
   some (v3.1,v3.2,0)
theorem Q7X (m_:Mnd) (r:Cat × List (List Int) × Int) (h:Q2B m_=some r):Contract Tryz.prog 44 [.agg (m_.cells true)] (.tup [.agg (r.1.cells true),.lst true 1 (Ls r.2.1),.val (.int .i64 r.2.2)]):=by
 refine Qi (rvs:=[.cell 2 31,.tmp 3,.tmp 4]) (rs:=[.agg (r.1.cells true),.lst true 1 (Ls r.2.1),.val (.int .i64 r.2.2)]) Tryz.func44 rfl rfl rfl rfl (by simp [Tryz.f44]) fun F hN hP=>?_
 unfold Q2B at h
 refine Q6 ?_
 refine runQ hN fun K hK=>?_
 simp [-Q0,-Q8,-Q3,-Q9,-Q4,eL,eI,Q1,Q5,Qc,Cat.cells,Mnd.cells]
 repeat with_reducible refine sdQ ?_
 refine hK _ ?_;clear hK K
 refine tn ?_
 refine Qa (st':=⟨[(1,.adr 0 0 0),(2,.adr 1 0 0)],[(0,.mix 14 [(Mnd.cells true m_)]),(1,.mix 5 [[.val (.int .i64 0),.val (.slice none 0 0),.val (.slice none 0 0),.val (.slice none 0 0),.val (.slice none 0 0)]])],2⟩) (Wk.r1 [(0,0),(1,1)] (by simp [hP,hhOk,back,Cat.cells,Mnd.cells,UA,U1,IA,I1,LA,L1,BA,B1,EA,E1,E2,eB,eI,eL])) ?_
 refine Q6 ?_
 refine Q6 ?_
 refine runQ hN fun K hK=>?_
 simp [-Q0,-Q8,-Q3,-Q9,-Q4,eL,eI,Q1,Q5,Qc,Cat.cells,Mnd.cells]
 repeat with_reducible refine sdQ ?_
 replace h:=bind_some h
 obtain ⟨v1,hv1,h⟩:=h
 refine Q2 (w_s_l16Is _ v1 hv1) (.cons (.aggL (.cons .val (.cons .lst (.cons .lst (.cons .lst (.cons .lst (.cons .val (.cons .lst (.cons .lst (.cons .lst (.cons .lst (.cons .lst (.cons .lst (.cons .lst (.cons .lst .nil))))))))))))))) .nil) ?_
 simp [-Q0,-Q8,-Q3,-Q9,-Q4,unk,unA,unE,unT,unC,flat,eL,eI,Q1,Q5,Qc,Cat.cells,Mnd.cells]
 repeat with_reducible refine sdQ ?_
 refine hK _ ?_;clear hK K
 refine tn ?_
 refine Qa (st':=⟨[(1,.adr 0 0 0),(2,.adr 1 0 0),(9,.val (.bool (!v1)))],[(0,.mix 14 [(Mnd.cells true m_)]),(1,.mix 5 [[.val (.int .i64 0),.val (.slice none 0 0),.val (.slice none 0 0),.val (.slice none 0 0),.val (.slice none 0 0)]])],2⟩) (Wk.r1 [(0,0),(1,1)] (by simp [hP,hhOk,back,Cat.cells,Mnd.cells,UA,U1,IA,I1,LA,L1,BA,B1,EA,E1,E2,eB,eI,eL])) ?_
 refine Qg rfl (fun g=>?_) fun g=>?_
 ·have g2:¬ (v1=true):=gQ
  clear g
  replace h:=if_l g2 h
  refine Q6 ?_
  refine runQ hN fun K hK=>?_
  simp [-Q0,-Q8,-Q3,-Q9,-Q4,eL,eI,Q1,Q5,Qc,Cat.cells,Mnd.cells]
  repeat with_reducible refine sdQ ?_
  refine hK _ ?_;clear hK K
  refine tn ?_
  refine Qa (st':=⟨[(2,.adr 0 0 0),(3,.val (.slice none 0 0)),(4,.val (.int .i64 1))],[(0,.mix 5 [[.val (.int .i64 0),.val (.slice none 0 0),.val (.slice none 0 0),.val (.slice none 0 0),.val (.slice none 0 0)]])],1⟩) (Wk.r1 [(1,0)] (by simp [hP,hhOk,back,Cat.cells,Mnd.cells,UA,U1,IA,I1,LA,L1,BA,B1,EA,E1,E2,eB,eI,eL])) ?_
  refine Qk ?_
  refine tr ?_
  have hr:=Option.some.inj h
  rw [← hr]
  refine ⟨_,(.cell Q6q rfl rfl rfl (by simp) (by simp) (.tmp (.tmp .nil))),?_⟩
  refine ⟨(.agg rfl (.one rfl rfl (.one rfl rfl .nil))),[.val (.int .i64 0),.val (.slice none 0 0),.val (.slice none 0 0),.val (.slice none 0 0),.val (.slice none 0 0),.val (.slice none 0 0),.val (.int .i64 1)],[],by simp [Cat.cells,Mnd.cells,UA,U1,IA,I1,LA,L1,BA,B1,EA,E1,E2,eB,eI,eL],by simp,(.cons .refl (.cons .nil (.cons .nil (.cons .nil (.cons .nil (.cons .nil (.cons .refl .nil)))))))⟩
 have g2:¬ (¬ (v1=true)):=gQ
 clear g
 replace h:=if_r g2 h
 refine Qh ?_
 refine tn ?_
 refine Q6 ?_
 refine runQ hN fun K hK=>?_
 simp [-Q0,-Q8,-Q3,-Q9,-Q4,eL,eI,Q1,Q5,Qc,Cat.cells,Mnd.cells]
 repeat with_reducible refine sdQ ?_
 replace h:=bind_some h
 obtain ⟨v3,hv3,h⟩:=h
 refine Q2 (Q5E _ v3 hv3) (.cons (.aggL (.cons .val (.cons .lst (.cons .lst (.cons .lst (.cons .lst (.cons .val (.cons .lst (.cons .lst (.cons .lst (.cons .lst (.cons .lst (.cons .lst (.cons .lst (.cons .lst .nil))))))))))))))) .nil) ?_
 simp [-Q0,-Q8,-Q3,-Q9,-Q4,unk,unA,unE,unT,unC,flat,eL,eI,Q1,Q5,Qc,Cat.cells,Mnd.cells]
 repeat with_reducible refine sdQ ?_
 refine hK _ ?_;clear hK K
 refine tn ?_
 refine Qa (st':=⟨[(2,.adr 0 0 0),(5,.adr 1 0 0),(6,.own 6 0 v3.2.length)],[(0,.mix 5 [[.val (.int .i64 0),.val (.slice none 0 0),.val (.slice none 0 0),.val (.slice none 0 0),.val (.slice none 0 0)]]),(1,.mix 5 [[.val (.int .i64 v3.1.n),.own 2 0 v3.1.fr.length,.own 3 0 v3.1.to.length,.own 4 0 v3.1.id.length,.own 5 0 v3.1.cs.length]]),(2,.row 1 (Is v3.1.fr)),(3,.row 1 (Is v3.1.to)),(4,.row 1 (Is v3.1.id)),(5,.row 1 (Ls v3.1.cs)),(6,.row 1 (Ls v3.2))],7⟩) (Wk.r1 [(1,0),(8,1),(3,2),(4,3),(5,4),(6,5),(7,6)] (by simp [hP,hhOk,back,Cat.cells,Mnd.cells,UA,U1,IA,I1,LA,L1,BA,B1,EA,E1,E2,eB,eI,eL])) ?_
 refine Q6 ?_
 refine Q6 ?_
 refine runQ hN fun K hK=>?_
 simp [-Q0,-Q8,-Q3,-Q9,-Q4,eL,eI,Q1,Q5,Qc,Cat.cells,Mnd.cells]
 repeat with_reducible refine sdQ ?_
 replace h:=bind_some h
 obtain ⟨v4,hv4,h⟩:=h
 refine Q2 (Q5u _ v4 hv4) (.cons (.aggL (.cons .val (.cons (.whole (by simp) (by simp) (by simp)) (.cons (.whole (by simp) (by simp) (by simp)) (.cons (.whole (by simp) (by simp) (by simp)) (.cons (.whole (by simp) (by simp) (by simp)) .nil)))))) .nil) ?_
 simp [-Q0,-Q8,-Q3,-Q9,-Q4,unk,unA,unE,unT,unC,flat,eL,eI,Q1,Q5,Qc,Cat.cells,Mnd.cells]
 repeat with_reducible refine sdQ ?_
 refine hK _ ?_;clear hK K
 refine tn ?_
 refine Qa (st':=⟨[(2,.adr 0 0 0),(5,.adr 1 0 0),(6,.own 6 0 v3.2.length),(18,.val (.bool (!v4)))],[(0,.mix 5 [[.val (.int .i64 0),.val (.slice none 0 0),.val (.slice none 0 0),.val (.slice none 0 0),.val (.slice none 0 0)]]),(1,.mix 5 [[.val (.int .i64 v3.1.n),.own 2 0 v3.1.fr.length,.own 3 0 v3.1.to.length,.own 4 0 v3.1.id.length,.own 5 0 v3.1.cs.length]]),(2,.row 1 (Is v3.1.fr)),(3,.row 1 (Is v3.1.to)),(4,.row 1 (Is v3.1.id)),(5,.row 1 (Ls v3.1.cs)),(6,.row 1 (Ls v3.2))],7⟩) (Wk.r1 [(0,0),(1,1),(2,2),(3,3),(4,4),(5,5),(6,6)] (by simp [hP,hhOk,back,Cat.cells,Mnd.cells,UA,U1,IA,I1,LA,L1,BA,B1,EA,E1,E2,eB,eI,eL])) ?_
 refine Qg rfl (fun g=>?_) fun g=>?_
 ·have g5:¬ (v4=true):=gQ
  clear g
  replace h:=if_l g5 h
  refine Q6 ?_
  refine runQ hN fun K hK=>?_
  simp [-Q0,-Q8,-Q3,-Q9,-Q4,eL,eI,Q1,Q5,Qc,Cat.cells,Mnd.cells]
  repeat with_reducible refine sdQ ?_
  refine hK _ ?_;clear hK K
  refine tn ?_
  refine Qa (st':=⟨[(2,.adr 0 0 0),(3,.val (.slice none 0 0)),(4,.val (.int .i64 3))],[(0,.mix 5 [[.val (.int .i64 0),.val (.slice none 0 0),.val (.slice none 0 0),.val (.slice none 0 0),.val (.slice none 0 0)]])],1⟩) (Wk.r1 [(0,0)] (by simp [hP,hhOk,back,Cat.cells,Mnd.cells,UA,U1,IA,I1,LA,L1,BA,B1,EA,E1,E2,eB,eI,eL])) ?_
  refine Qk ?_
  refine tr ?_
  have hr:=Option.some.inj h
  rw [← hr]
  refine ⟨_,(.cell Q6q rfl rfl rfl (by simp) (by simp) (.tmp (.tmp .nil))),?_⟩
  refine ⟨(.agg rfl (.one rfl rfl (.one rfl rfl .nil))),[.val (.int .i64 0),.val (.slice none 0 0),.val (.slice none 0 0),.val (.slice none 0 0),.val (.slice none 0 0),.val (.slice none 0 0),.val (.int .i64 3)],[],by simp [Cat.cells,Mnd.cells,UA,U1,IA,I1,LA,L1,BA,B1,EA,E1,E2,eB,eI,eL],by simp,(.cons .refl (.cons .nil (.cons .nil (.cons .nil (.cons .nil (.cons .nil (.cons .refl .nil)))))))⟩
 have g5:¬ (¬ (v4=true)):=gQ
 clear g
 replace h:=if_r g5 h
 refine Qh ?_
 refine tn ?_
 refine Q6 ?_
 refine runQ hN fun K hK=>?_
 simp [-Q0,-Q8,-Q3,-Q9,-Q4,eL,eI,Q1,Q5,Qc,Cat.cells,Mnd.cells]
 repeat with_reducible refine sdQ ?_
 refine hK _ ?_;clear hK K
 refine tn ?_
 refine Qa (st':=⟨[(2,.adr 0 0 0),(3,.own 5 0 v3.2.length),(4,.val (.int .i64 0))],[(0,.mix 5 [[.val (.int .i64 v3.1.n),.own 1 0 v3.1.fr.length,.own 2 0 v3.1.to.length,.own 3 0 v3.1.id.length,.own 4 0 v3.1.cs.length]]),(1,.row 1 (Is v3.1.fr)),(2,.row 1 (Is v3.1.to)),(3,.row 1 (Is v3.1.id)),(4,.row 1 (Ls v3.1.cs)),(5,.row 1 (Ls v3.2))],6⟩) (Wk.r1 [(0,0),(2,1),(3,2),(4,3),(5,4),(6,5)] (by simp [hP,hhOk,back,Cat.cells,Mnd.cells,UA,U1,IA,I1,LA,L1,BA,B1,EA,E1,E2,eB,eI,eL])) ?_
 refine Qk ?_
 have hr:=Option.some.inj h
 rw [← hr]
 refine ⟨_,(.cell Q6q rfl rfl rfl (by simp) (by simp) (.tmp (.tmp .nil))),?_⟩
 refine ⟨(.agg rfl (.one rfl rfl (.one rfl rfl .nil))),[.val (.int .i64 v3.1.n),.lst true 1 (Is v3.1.fr),.lst true 1 (Is v3.1.to),.lst true 1 (Is v3.1.id),.lst true 1 (Ls v3.1.cs),.lst true 1 (Ls v3.2),.val (.int .i64 0)],[1,2,3,4,5],by simp [Cat.cells,Mnd.cells,UA,U1,IA,I1,LA,L1,BA,B1,EA,E1,E2,eB,eI,eL],by simp,(UpL.refl _)⟩
end Go.Vc.T
namespace Go.Vc.T
open Go Go.Vc Go.Proofs
noncomputable def kC (m:Mnd):Cat:=bC m.f.s.n (klL m) (fun x=>ix m.u x) fun a b=>Q3n m (ix b 1) (ix a 2) (ix b 2)
theorem e_klArr {m:Mnd} (hm:m.Is):QL m=some (klL m):=by
 obtain ⟨l1,l2,l3,l4,l5,l6,l7,l8,l9⟩:=hm.pre.len
 have hc:=hm.pre.f.s
 unfold QL
 refine QM m.f.s.n.toNat (fun i=>klN m m.f.s.n.toNat i) (e:=klL m) rfl (by omega) (fun i hi=>?_) (by simp [klL];try omega) rfl
 have hL:=Q69 m (by omega) m.f.s.n.toNat i (by omega)
 simp only
 rw [if_pos (by omega)]
 simp only [Option.bind_assoc]
 refine QM m.f.s.n.toNat (fun k=>klN m m.f.s.n.toNat i++klX m i k) (e:=klN m m.f.s.n.toNat (i+1)) (by simp [klX]) (by omega) (fun k hk=>?_) (by simp [Q6a];try omega) ?_
 ·have hX:=Q7B m (by omega) i k
  simp only
  rw [if_pos (by omega)]
  unfold Q12
  rw [Qe (by omega)]
  simp only [Option.bind_some]
  rw [(e_homs hc _ _).2]
  simp only [Option.bind_some,Option.bind_assoc]
  have hH:=Q68 m.f.s i (ix m.f.ob k)
  refine QM (homL m.f.s i (ix m.f.ob k)).length (fun j=>(klN m m.f.s.n.toNat i++klX m i k)++((homL m.f.s i (ix m.f.ob k)).take j).map fun f=>[(i:Int),(k:Int),f]) (e:=klN m m.f.s.n.toNat i++klX m i (k+1)) (by simp) (by omega) (fun j hj=>?_) (by simp [Q6b,klF]) ?_
  ·have hs:(homL m.f.s i (ix m.f.ob k)).take (j+1)=(homL m.f.s i (ix m.f.ob k)).take j++[ix (homL m.f.s i (ix m.f.ob k)) j]:=by rw [List.take_succ_eq_append_getElem hj,Q1F _ _ hj]
   simp (disch:=omega) [Qe,B64,hs,hj];try omega
  try simp only [Option.bind_some]
  rw [Qe (by unfold B64;omega)]
 try simp only [Option.bind_some]
 rw [Qe (by unfold B64;omega)]
theorem Q63 (c:Cat):Q25 c=some (bo (c.n≤8∧(c.fr.length:Int)≤40)):=by
 unfold Q25
 by_cases h1:c.n≤8<;>by_cases h2:(c.fr.length:Int)≤40<;>simp [h1,h2,bo]
theorem kl_ids {m:Mnd} (hm:m.Is) {x:Nat} (hx:x<m.f.ob.length):[(x:Int),(x:Int),ix m.u x]∈klL m:=by
 obtain ⟨l1,l2,l3,l4,l5,l6,l7,l8,l9⟩:=hm.pre.len
 exact mem_kl.2 ⟨x,x,ix m.u x,by omega,by omega,hm.pre.Au rfl (by omega),rfl⟩
theorem Q5K {m:Mnd} {i:Nat} (hi:i<(klL m).length):∃ x y f:Int,(0≤x∧x<m.f.s.n)∧(0≤y∧y<m.f.s.n)∧Ar m.f.s f x (ix m.f.ob y)∧rx (klL m) i=[x,y,f]:=mem_kl.1 (Q6t hi)
theorem e_kBind {m:Mnd} (hm:m.Is) {f g x y z:Int} (hf:Ar m.f.s f x (ix m.f.ob y)) (hg:Ar m.f.s g y (ix m.f.ob z)) (hz:0≤z∧z<(m.f.ob.length:Int)):Q2A m z f g=some (Q3n m z f g)∧QE z f g m.f.s m=some (Q3n m z f g):=by
 obtain ⟨l1,l2,l3,l4,l5,l6,l7,l8,l9⟩:=hm.pre.len
 have hc:=hm.pre.f.s
 have a1:=hm.pre.Aa rfl hg
 have a2:=hm.pre.Aj rfl hz
 have t1:=hf.thn hc a1
 have t2:=(hf.two hc a1).thn hc a2
 have hg1:=hg.1
 unfold Q2A QE
 constructor
 ·rw [Qe (by omega),t1.1]
  simp only [Option.bind_some]
  rw [Qe (by omega),t2.1]
  rfl
 rw [Qe (by omega),t1.2]
 simp only [Option.bind_some]
 rw [Qe (by omega),t2.2]
 rfl
theorem kl3 {m:Mnd}:∀ x∈klL m,x.length=3:=by
 intro x hx
 obtain ⟨_,_,_,_,_,_,rfl⟩:=mem_kl.1 hx
 rfl
theorem Q6B {m:Mnd} (hm:m.Is):Q1I m=some (if (klL m).length≤40 then kC m else { kC m with cs:=[] },klL m):=by
 obtain ⟨l1,l2,l3,l4,l5,l6,l7,l8,l9⟩:=hm.pre.len
 have hc:=hm.pre.f.s
 have hlen:(klL m).length≤2560:=Nat.le_trans (Q69 m (by omega) m.f.s.n.toNat m.f.s.n.toNat (by omega)) (by omega)
 have c0:=(Q4W (L:=klL m) (k:=0) (by omega) (by omega) fun x hx=>by rw [kl3 x hx];omega).2
 have c1:=(Q4W (L:=klL m) (k:=1) (by omega) (by omega) fun x hx=>by rw [kl3 x hx];omega).2
 unfold Q1I
 refine QM m.f.s.n.toNat (fun i=>klN m m.f.s.n.toNat i) (e:=klL m) rfl (by omega) (fun i hi=>?_) (by simp [klL];try omega) ?_
 ·have hL:=Q69 m (by omega) m.f.s.n.toNat i (by omega)
  simp only
  rw [if_pos (by omega)]
  simp only [Option.bind_assoc]
  refine QM m.f.s.n.toNat (fun k=>klN m m.f.s.n.toNat i++klX m i k) (e:=klN m m.f.s.n.toNat (i+1)) (by simp [klX]) (by omega) (fun k hk=>?_) (by simp [Q6a];try omega) ?_
  ·have hX:=Q7B m (by omega) i k
   simp only
   rw [if_pos (by omega),Qe (by omega),(e_homs hc _ _).1]
   simp only [Option.bind_some,Option.bind_assoc]
   have hH:=Q68 m.f.s i (ix m.f.ob k)
   refine QM (homL m.f.s i (ix m.f.ob k)).length (fun j=>(klN m m.f.s.n.toNat i++klX m i k)++((homL m.f.s i (ix m.f.ob k)).take j).map fun f=>[(i:Int),(k:Int),f]) (e:=klN m m.f.s.n.toNat i++klX m i (k+1)) (by simp) (by omega) (fun j hj=>?_) (by simp [Q6b,klF]) ?_
   ·have hs:(homL m.f.s i (ix m.f.ob k)).take (j+1)=(homL m.f.s i (ix m.f.ob k)).take j++[ix (homL m.f.s i (ix m.f.ob k)) j]:=by rw [List.take_succ_eq_append_getElem hj,Q1F _ _ hj]
    simp (disch:=omega) [Qe,B64,hs,hj];try omega
   try simp only [Option.bind_some]
   rw [Qe (by unfold B64;omega)]
  try simp only [Option.bind_some]
  rw [Qe (by unfold B64;omega)]
 rw [c0,c1]
 simp only [Option.bind_some]
 refine QM m.f.s.n.toNat (fun i=>tab i fun x=>posL (klL m) [(x:Int),(x:Int),ix m.u x]) (e:=tab m.f.s.n.toNat fun x=>posL (klL m) [(x:Int),(x:Int),ix m.u x]) rfl (by omega) (fun i hi=>?_) (by simp;try omega) ?_
 ·simp only
  rw [if_pos (by omega),Qe (by omega),Q87 (by omega)]
  simp (disch:=omega) [Qe,B64,Q4g];try omega
 by_cases h40:(klL m).length≤40
 ·rw [if_pos h40]
  refine QM (klL m).length (fun i=>tab i fun i=>tab (klL m).length fun j=>if ix (rx (klL m) i) 1=ix (rx (klL m) j) 0 then posL (klL m) [ix (rx (klL m) i) 0,ix (rx (klL m) j) 1,Q3n m (ix (rx (klL m) j) 1) (ix (rx (klL m) i) 2) (ix (rx (klL m) j) 2)] else -1) (e:=(kC m).cs) rfl (by omega) (fun i hi=>?_) (by simp [kC,bC]) rfl
  simp only
  rw [if_pos (by omega),Q63]
  rw [QN (by simp only [List.length_map];omega)]
  simp only [Option.bind_some,if_true]
  obtain ⟨x,y,f,hx,hy,hf,hi3⟩:=Q5K hi
  refine QM (klL m).length (fun j=>tab j fun j=>if ix (rx (klL m) i) 1=ix (rx (klL m) j) 0 then posL (klL m) [ix (rx (klL m) i) 0,ix (rx (klL m) j) 1,Q3n m (ix (rx (klL m) j) 1) (ix (rx (klL m) i) 2) (ix (rx (klL m) j) 2)] else -1) (e:=tab (klL m).length fun j=>if ix (rx (klL m) i) 1=ix (rx (klL m) j) 0 then posL (klL m) [ix (rx (klL m) i) 0,ix (rx (klL m) j) 1,Q3n m (ix (rx (klL m) j) 1) (ix (rx (klL m) i) 2) (ix (rx (klL m) j) 2)] else -1) rfl (by omega) (fun j hj=>?_) (by simp) ?_
  ·obtain ⟨y',z,g,hy',hz,hg,hj3⟩:=Q5K hj
   simp only
   rw [if_pos (by omega),Qe (by omega),Qe (by omega),Qe (by rw [hi3];simp),Qe (by rw [hj3];simp),Q4g]
   by_cases e:ix (rx (klL m) i) 1=ix (rx (klL m) j) 0
   ·rw [if_pos e,if_pos e,Qe (by rw [hi3];simp),Qe (by rw [hj3];simp),Qe (by rw [hj3];simp),Qe (by rw [hi3];simp),Qe (by rw [hj3];simp)]
    have e':y=y':=by rw [hi3,hj3] at e;simpa [ix] using e
    subst e'
    have b:=e_kBind hm (f:=ix (rx (klL m) i) 2) (g:=ix (rx (klL m) j) 2) (x:=x) (y:=y) (z:=ix (rx (klL m) j) 1) (by rw [hi3];exact hf) (by rw [hj3];exact hg) (by rw [hj3];show 0≤z∧z<_;omega)
    rw [b.1]
    simp only [Option.bind_some]
    rw [Q87 (by omega)]
    simp only [Option.bind_some]
    rw [Qe (by simp;omega),Qe (by unfold B64;omega)]
   rw [if_neg e,if_neg e]
   simp only [Option.bind_some]
   rw [Qe (by simp;omega),Qe (by unfold B64;omega)]
  try simp only
  rw [Qe (by simp;omega),Qe (by unfold B64;omega),Q4g]
 rw [if_neg h40]
 refine QM 0 (fun _=>[]) (e:=[]) rfl (by omega) (fun i hi=>by omega) ?_ rfl
 simp only
 rw [if_pos (by omega),Q63,Qz (by simp only [List.length_map];omega)]
 simp
theorem Q5X {L:List (List Int)} (h:Keyed L) {x:List Int} (hx:x∈L):(Q1E (keyB x) (plL L)).getD 0=posL L x:=by
 obtain ⟨j,_,_,h3,h4⟩:=h.at hx
 unfold plL
 rw [h3,h4]
 rfl
theorem e_kleisli {m:Mnd} (hm:m.Is):Q1f m=some (if (klL m).length≤40 then (kC m,klL m,true) else (⟨0,[],[],[],[]⟩,[],false)):=by
 obtain ⟨l1,l2,l3,l4,l5,l6,l7,l8,l9⟩:=hm.pre.len
 have hk:=Q8f (m:=m) (by omega) (by omega)
 have hlen:(klL m).length≤2560:=Nat.le_trans (Q69 m (by omega) m.f.s.n.toNat m.f.s.n.toNat (by omega)) (by omega)
 have c0:=(Q4W (L:=klL m) (k:=0) (by omega) (by omega) fun x hx=>by rw [kl3 x hx];omega).1
 have c1:=(Q4W (L:=klL m) (k:=1) (by omega) (by omega) fun x hx=>by rw [kl3 x hx];omega).1
 unfold Q1f
 rw [e_klArr hm]
 simp only [Option.bind_some]
 by_cases h40:(klL m).length≤40
 case neg=>rw [if_pos (by omega),if_neg h40]
 rw [if_neg (by omega),if_pos h40,Q88 (by omega) fun x hx=>by rw [kl3 x hx];omega]
 simp only [Option.bind_some]
 rw [c0,c1]
 simp only [Option.bind_some]
 refine QM m.f.s.n.toNat (fun i=>tab i fun x=>posL (klL m) [(x:Int),(x:Int),ix m.u x]) (e:=tab m.f.s.n.toNat fun x=>posL (klL m) [(x:Int),(x:Int),ix m.u x]) rfl (by omega) (fun i hi=>?_) (by simp;try omega) ?_
 ·simp only
  rw [if_pos (by omega),Qe (by omega),e_key (by simp)]
  simp only [Option.bind_some]
  rw [Q5X hk (kl_ids hm (by omega))]
  simp (disch:=omega) [Qe,B64,Q4g];try omega
 unfold Qn
 simp only [Option.bind_some,List.length_map,Int.toNat_natCast]
 rw [Qe (by omega),Option.bind_assoc]
 refine QM (klL m).length (fun i=>mixr (klL m).length i (fun i=>tab (klL m).length fun j=>if ix (rx (klL m) i) 1=ix (rx (klL m) j) 0 then posL (klL m) [ix (rx (klL m) i) 0,ix (rx (klL m) j) 1,Q3n m (ix (rx (klL m) j) 1) (ix (rx (klL m) i) 2) (ix (rx (klL m) j) 2)] else -1) []) (e:=(kC m).cs) (Q6Z _ _ _).symm (by omega) (fun i hi=>?_) (by simp [Q8n,kC,bC]) rfl
 obtain ⟨x,y,f,hx,hy,hf,hi3⟩:=Q5K hi
 have ei:∀ k,ix ((klL m).map (ix · k)) i=ix (rx (klL m) i) k:=fun k=>by simp [ix,rx,List.getD_eq_getElem?_getD,hi]
 simp only
 rw [if_pos (by simp;omega),Qe (by omega),Qe (by simp;omega),Qe (by simp;omega),Option.bind_assoc]
 simp only [Int.toNat_natCast]
 rw [rx_set (by simp;omega)]
 refine QM (klL m).length (fun k=>(mixr (klL m).length i (fun i=>tab (klL m).length fun j=>if ix (rx (klL m) i) 1=ix (rx (klL m) j) 0 then posL (klL m) [ix (rx (klL m) i) 0,ix (rx (klL m) j) 1,Q3n m (ix (rx (klL m) j) 1) (ix (rx (klL m) i) 2) (ix (rx (klL m) j) 2)] else -1) []).set i (mixr (klL m).length k (fun j=>if ix (rx (klL m) i) 1=ix (rx (klL m) j) 0 then posL (klL m) [ix (rx (klL m) i) 0,ix (rx (klL m) j) 1,Q3n m (ix (rx (klL m) j) 1) (ix (rx (klL m) i) 2) (ix (rx (klL m) j) 2)] else -1) 0)) (e:=(mixr (klL m).length i (fun i=>tab (klL m).length fun j=>if ix (rx (klL m) i) 1=ix (rx (klL m) j) 0 then posL (klL m) [ix (rx (klL m) i) 0,ix (rx (klL m) j) 1,Q3n m (ix (rx (klL m) j) 1) (ix (rx (klL m) i) 2) (ix (rx (klL m) j) 2)] else -1) []).set i (tab (klL m).length fun j=>if ix (rx (klL m) i) 1=ix (rx (klL m) j) 0 then posL (klL m) [ix (rx (klL m) i) 0,ix (rx (klL m) j) 1,Q3n m (ix (rx (klL m) j) 1) (ix (rx (klL m) i) 2) (ix (rx (klL m) j) 2)] else -1)) (by simp [Q6Z]) (by omega) (fun k hk2=>?_) (by simp [Q8n]) ?_
 ·obtain ⟨y',z,g,hy',hz,hg,hj3⟩:=Q5K hk2
  have ek:∀ q,ix ((klL m).map (ix · q)) k=ix (rx (klL m) k) q:=fun q=>by simp [ix,rx,List.getD_eq_getElem?_getD,hk2]
  have hl:i<(mixr (klL m).length i (fun i=>tab (klL m).length fun j=>if ix (rx (klL m) i) 1=ix (rx (klL m) j) 0 then posL (klL m) [ix (rx (klL m) i) 0,ix (rx (klL m) j) 1,Q3n m (ix (rx (klL m) j) 1) (ix (rx (klL m) i) 2) (ix (rx (klL m) j) 2)] else -1) []).length:=by simpa using hi
  simp only
  rw [if_pos (by simp;omega)]
  simp only [Int.toNat_natCast,rx_set hl,List.set_set]
  rw [Qe (by simp;omega),Qe (by simp;omega),Qe (by simp;omega),Qe (by simp;omega),ei,ek]
  by_cases e:ix (rx (klL m) i) 1=ix (rx (klL m) k) 0
  ·rw [if_pos e,Qe (by simp;omega)]
   have e':y=y':=by rw [hi3,hj3] at e;simpa [ix] using e
   subst e'
   have f0:Ar m.f.s (ix (rx (klL m) i) 2) x (ix m.f.ob y):=by rw [hi3];exact hf
   have g0:Ar m.f.s (ix (rx (klL m) k) 2) y (ix m.f.ob (ix (rx (klL m) k) 1)):=by rw [hj3];exact hg
   have z0:0≤ix (rx (klL m) k) 1∧ix (rx (klL m) k) 1<(m.f.ob.length:Int):=by rw [hj3];show 0≤z∧z<_;omega
   have b:=e_kBind hm f0 g0 z0
   have hin:[ix (rx (klL m) i) 0,ix (rx (klL m) k) 1,Q3n m (ix (rx (klL m) k) 1) (ix (rx (klL m) i) 2) (ix (rx (klL m) k) 2)]∈klL m:=by
    refine mem_kl.2 ⟨x,ix (rx (klL m) k) 1,_,hx,by omega,kl_bind hm f0 g0 z0,?_⟩
    rw [hi3];rfl
   unfold QD
   rw [Qe (by omega),Qe (by omega),Qe (by rw [hi3];simp),Qe (by rw [hj3];simp),Qe (by rw [hj3];simp),Qe (by rw [hi3];simp),Qe (by rw [hj3];simp),b.2]
   simp only [Option.bind_some]
   rw [e_key (by simp)]
   simp only [Option.bind_some]
   rw [Q5X hk hin,Qe (by simp;omega)]
   simp only [Option.bind_some]
   rw [Qe (by unfold B64;omega)]
   have:=Q6e (m:=(klL m).length) (g:=k) (v:=fun j=>if ix (rx (klL m) i) 1=ix (rx (klL m) j) 0 then posL (klL m) [ix (rx (klL m) i) 0,ix (rx (klL m) j) 1,Q3n m (ix (rx (klL m) j) 1) (ix (rx (klL m) i) 2) (ix (rx (klL m) j) 2)] else -1) (z:=0)
   rw [← this,if_pos e]
  rw [if_neg e]
  simp only [Option.bind_some]
  rw [Qe (by unfold B64;omega)]
  have:=Q6e (m:=(klL m).length) (g:=k) (v:=fun j=>if ix (rx (klL m) i) 1=ix (rx (klL m) j) 0 then posL (klL m) [ix (rx (klL m) i) 0,ix (rx (klL m) j) 1,Q3n m (ix (rx (klL m) j) 1) (ix (rx (klL m) i) 2) (ix (rx (klL m) j) 2)] else -1) (z:=0)
  rw [← this,if_neg e]
 simp only [Option.bind_some]
 rw [Qe (by unfold B64;omega),← Q6e]
def zeroC:Cat:=⟨0,[],[],[],[]⟩
theorem Q8A:zeroC.ok∧zeroC.size≤2000:=by simp [zeroC,Cat.ok,Cat.size,sumL]
theorem e_kCode (m:Mnd):∃ r,Q2B m=some r∧Q1x m=some r∧(r.1.ok∧r.1.size≤2000)∧(r.2.1.length≤40∧∀ x∈r.2.1,x.length≤3)∧(r.2.2=0→m.Is∧(klL m).length≤40∧r=(kC m,klL m,0)):=by
 unfold Q2B Q1x
 rw [e_l16Is,e_isMonad]
 by_cases hm:m.Is
 case neg=>exact ⟨(zeroC,[],1),by simp [Qz hm,zeroC],by simp [Qz hm,zeroC],Q8A,by simp,by simp⟩
 obtain ⟨l1,l2,l3,l4,l5,l6,l7,l8,l9⟩:=hm.pre.len
 simp only [QN hm,Option.bind_some,not_true_eq_false,if_false,Q6B hm,e_kleisli hm]
 by_cases h40:(klL m).length≤40
 ·refine ⟨(kC m,klL m,0),?_,?_,bC_ok (by omega) h40,⟨h40,fun x hx=>by rw [kl3 x hx];omega⟩,fun _=>⟨hm,h40,rfl⟩⟩
  ·rw [if_pos h40,Q63,QN (by simp [kC,bC];omega)];simp
  rw [if_pos h40];simp
 refine ⟨(zeroC,[],3),?_,?_,Q8A,by simp,by simp⟩
 ·rw [if_neg h40,Q63,Qz (by simp [kC,bC];omega)];simp [zeroC]
 rw [if_neg h40];simp [zeroC]
end Go.Vc.T
namespace Go.Vc.T
open Go Go.Vc Go.Proofs
noncomputable def Q15 (m_:Mnd):Option (Adj × Int) :=
 (Q1x m_).bind fun v1 =>
 if ¬ (v1.2.2=0) then
  some ((⟨(⟨(⟨0,[],[],[],[]⟩:Cat),(⟨0,[],[],[],[]⟩:Cat),[],[]⟩:Fn),(⟨(⟨0,[],[],[],[]⟩:Cat),(⟨0,[],[],[],[]⟩:Cat),[],[]⟩:Fn),[],[]⟩:Adj),v1.2.2)
 else
  (Q2s v1.2.1).bind fun v3 =>
  (QH (σ:=List Int × Int) (ε:=List Int) (fun s13 =>
   if s13.2<(m_.f.s.fr.length:Int) then
    ass (0≤s13.2∧s13.2<(m_.f.s.to.length:Int)) <|
    ass (0≤s13.2∧s13.2<(m_.f.s.fr.length:Int)) <|
    ass (0≤ix m_.f.s.to s13.2∧ix m_.f.s.to s13.2<(m_.u.length:Int)) <|
    (Qo m_.f.s s13.2 (ix m_.u (ix m_.f.s.to s13.2))).bind fun v18 =>
    (Q39 [[ix m_.f.s.fr s13.2,ix m_.f.s.to s13.2,v18]]).bind fun v19 =>
    ass ((s13.1++[(Q1E v19 v3).getD 0]).length≤1073741824) <|
    ass (B64 (s13.2+1)) <|
    some (Ctl.next (s13.1++[(Q1E v19 v3).getD 0],s13.2+1))
   else
    some (Ctl.ret s13.1)) fuel ([],0)).bind fun b4 =>
  (QH (σ:=List Int × Int) (ε:=List Int) (fun s32 =>
   if s32.2<(v1.2.1.length:Int) then
    ass (0≤s32.2∧s32.2<(v1.2.1.length:Int)) <|
    ass ((0:Int)≤2∧2<((rx v1.2.1 s32.2).length:Int)) <|
    (QX m_ (ix (rx v1.2.1 s32.2) 2)).bind fun v36 =>
    ass ((0:Int)≤1∧1<((rx v1.2.1 s32.2).length:Int)) <|
    ass (0≤ix (rx v1.2.1 s32.2) 1∧ix (rx v1.2.1 s32.2) 1<(m_.j.length:Int)) <|
    (Qo m_.f.s v36 (ix m_.j (ix (rx v1.2.1 s32.2) 1))).bind fun v39 =>
    ass ((s32.1++[v39]).length≤1073741824) <|
    ass (B64 (s32.2+1)) <|
    some (Ctl.next (s32.1++[v39],s32.2+1))
   else
    some (Ctl.ret s32.1)) fuel ([],0)).bind fun b22 =>
  (QH (σ:=List Int × Int) (ε:=List Int) (fun s49 =>
   if s49.2<(m_.f.ob.length:Int) then
    ass (0≤s49.2∧s49.2<(m_.f.ob.length:Int)) <|
    ass (0≤ix m_.f.ob s49.2∧ix m_.f.ob s49.2<(m_.f.s.id.length:Int)) <|
    (Q39 [[ix m_.f.ob s49.2,s49.2,ix m_.f.s.id (ix m_.f.ob s49.2)]]).bind fun v53 =>
    ass ((s49.1++[(Q1E v53 v3).getD 0]).length≤1073741824) <|
    ass (B64 (s49.2+1)) <|
    some (Ctl.next (s49.1++[(Q1E v53 v3).getD 0],s49.2+1))
   else
    some (Ctl.ret s49.1)) fuel ([],0)).bind fun b42 =>
  (Q1P m_.f.s.n).bind fun v56 =>
  (Q1i m_.f.s v1.1 v56 b4).bind fun v57 =>
  (Q1i v1.1 m_.f.s m_.f.ob b22).bind fun v58 =>
  (Q2a v57 v58 m_.u b42).bind fun v59 =>
  some (v59,0)
theorem Q3A (m_:Mnd) (r:Adj × Int) (h:Q15 m_=some r):Contract Tryz.prog 12 [.agg (m_.cells true)] (.tup [.agg (r.1.cells true),.val (.int .i64 r.2)]):=by
 refine Qi (rvs:=[.cell 2 35,.tmp 3]) (rs:=[.agg (r.1.cells true),.val (.int .i64 r.2)]) Tryz.func12 rfl rfl rfl rfl (by simp [Tryz.f12]) fun F hN hP=>?_
 unfold Q15 at h
 refine Q6 ?_
 refine runQ hN fun K hK=>?_
 simp [-Q0,-Q8,-Q3,-Q9,-Q4,eL,eI,Q1,Qt,Q5,Qd,Qc,Adj.cells,Cat.cells,Fn.cells,Mnd.cells]
 repeat with_reducible refine sdQ ?_
 refine hK _ ?_;clear hK K
 refine tn ?_
 refine Qa (st':=⟨[(1,.adr 0 0 0),(2,.adr 1 0 0)],[(0,.mix 14 [(Mnd.cells true m_)]),(1,.mix 26 [[.val (.int .i64 0),.val (.slice none 0 0),.val (.slice none 0 0),.val (.slice none 0 0),.val (.slice none 0 0),.val (.int .i64 0),.val (.slice none 0 0),.val (.slice none 0 0),.val (.slice none 0 0),.val (.slice none 0 0),.val (.slice none 0 0),.val (.slice none 0 0),.val (.int .i64 0),.val (.slice none 0 0),.val (.slice none 0 0),.val (.slice none 0 0),.val (.slice none 0 0),.val (.int .i64 0),.val (.slice none 0 0),.val (.slice none 0 0),.val (.slice none 0 0),.val (.slice none 0 0),.val (.slice none 0 0),.val (.slice none 0 0),.val (.slice none 0 0),.val (.slice none 0 0)]])],2⟩) (Wk.r1 [(0,0),(1,1)] (by simp [hP,hhOk,back,Adj.cells,Cat.cells,Fn.cells,Mnd.cells,UA,U1,IA,I1,LA,L1,BA,B1,EA,E1,E2,eB,eI,eL])) ?_
 refine Q6 ?_
 refine runQ hN fun K hK=>?_
 simp [-Q0,-Q8,-Q3,-Q9,-Q4,eL,eI,Q1,Qt,Q5,Qd,Qc,Adj.cells,Cat.cells,Fn.cells,Mnd.cells]
 repeat with_reducible refine sdQ ?_
 replace h:=bind_some h
 obtain ⟨v1,hv1,h⟩:=h
 refine Q2 (Q5s _ v1 hv1) (.cons (.field rfl (by simp [Mnd.cells]) (.cons .val (.cons .lst (.cons .lst (.cons .lst (.cons .lst (.cons .val (.cons .lst (.cons .lst (.cons .lst (.cons .lst (.cons .lst (.cons .lst (.cons .lst (.cons .lst .nil))))))))))))))) .nil) ?_
 simp [-Q0,-Q8,-Q3,-Q9,-Q4,unk,unA,unE,unT,unC,flat,eL,eI,Q1,Qt,Q5,Qd,Qc,Adj.cells,Cat.cells,Fn.cells,Mnd.cells]
 repeat with_reducible refine sdQ ?_
 refine hK _ ?_;clear hK K
 refine tn ?_
 refine Qa (st':=⟨[(1,.adr 0 0 0),(2,.adr 1 0 0),(4,.adr 2 0 0),(5,.own 7 0 v1.2.1.length),(6,.val (.int .i64 v1.2.2))],[(0,.mix 14 [(Mnd.cells true m_)]),(1,.mix 26 [[.val (.int .i64 0),.val (.slice none 0 0),.val (.slice none 0 0),.val (.slice none 0 0),.val (.slice none 0 0),.val (.int .i64 0),.val (.slice none 0 0),.val (.slice none 0 0),.val (.slice none 0 0),.val (.slice none 0 0),.val (.slice none 0 0),.val (.slice none 0 0),.val (.int .i64 0),.val (.slice none 0 0),.val (.slice none 0 0),.val (.slice none 0 0),.val (.slice none 0 0),.val (.int .i64 0),.val (.slice none 0 0),.val (.slice none 0 0),.val (.slice none 0 0),.val (.slice none 0 0),.val (.slice none 0 0),.val (.slice none 0 0),.val (.slice none 0 0),.val (.slice none 0 0)]]),(2,.mix 5 [[.val (.int .i64 v1.1.n),.own 3 0 v1.1.fr.length,.own 4 0 v1.1.to.length,.own 5 0 v1.1.id.length,.own 6 0 v1.1.cs.length]]),(3,.row 1 (Is v1.1.fr)),(4,.row 1 (Is v1.1.to)),(5,.row 1 (Is v1.1.id)),(6,.row 1 (Ls v1.1.cs)),(7,.row 1 (Ls v1.2.1))],8⟩) (Wk.r1 [(0,0),(1,1),(9,2),(3,3),(4,4),(5,5),(6,6),(7,7)] (by simp [hP,hhOk,back,Adj.cells,Cat.cells,Fn.cells,Mnd.cells,UA,U1,IA,I1,LA,L1,BA,B1,EA,E1,E2,eB,eI,eL])) ?_
 refine Q6 ?_
 refine Q6 ?_
 refine runQ hN fun K hK=>?_
 simp [-Q0,-Q8,-Q3,-Q9,-Q4,eL,eI,Q1,Qt,Q5,Qd,Qc,Adj.cells,Cat.cells,Fn.cells,Mnd.cells]
 repeat with_reducible refine sdQ ?_
 refine hK _ ?_;clear hK K
 refine tn ?_
 refine Qa (st':=⟨[(1,.adr 0 0 0),(2,.adr 1 0 0),(4,.adr 2 0 0),(5,.own 7 0 v1.2.1.length),(6,.val (.int .i64 v1.2.2)),(26,.val (.bool (v1.2.2 != 0)))],[(0,.mix 14 [(Mnd.cells true m_)]),(1,.mix 26 [[.val (.int .i64 0),.val (.slice none 0 0),.val (.slice none 0 0),.val (.slice none 0 0),.val (.slice none 0 0),.val (.int .i64 0),.val (.slice none 0 0),.val (.slice none 0 0),.val (.slice none 0 0),.val (.slice none 0 0),.val (.slice none 0 0),.val (.slice none 0 0),.val (.int .i64 0),.val (.slice none 0 0),.val (.slice none 0 0),.val (.slice none 0 0),.val (.slice none 0 0),.val (.int .i64 0),.val (.slice none 0 0),.val (.slice none 0 0),.val (.slice none 0 0),.val (.slice none 0 0),.val (.slice none 0 0),.val (.slice none 0 0),.val (.slice none 0 0),.val (.slice none 0 0)]]),(2,.mix 5 [[.val (.int .i64 v1.1.n),.own 3 0 v1.1.fr.length,.own 4 0 v1.1.to.length,.own 5 0 v1.1.id.length,.own 6 0 v1.1.cs.length]]),(3,.row 1 (Is v1.1.fr)),(4,.row 1 (Is v1.1.to)),(5,.row 1 (Is v1.1.id)),(6,.row 1 (Ls v1.1.cs)),(7,.row 1 (Ls v1.2.1))],8⟩) (Wk.r1 [(0,0),(1,1),(2,2),(3,3),(4,4),(5,5),(6,6),(7,7)] (by simp [hP,hhOk,back,Adj.cells,Cat.cells,Fn.cells,Mnd.cells,UA,U1,IA,I1,LA,L1,BA,B1,EA,E1,E2,eB,eI,eL])) ?_
 refine Qg rfl (fun g=>?_) fun g=>?_
 ·have g2:¬ (v1.2.2=0):=gQ
  clear g
  replace h:=if_l g2 h
  refine Q6 ?_
  refine runQ hN fun K hK=>?_
  simp [-Q0,-Q8,-Q3,-Q9,-Q4,eL,eI,Q1,Qt,Q5,Qd,Qc,Adj.cells,Cat.cells,Fn.cells,Mnd.cells]
  repeat with_reducible refine sdQ ?_
  refine hK _ ?_;clear hK K
  refine tn ?_
  refine Qa (st':=⟨[(2,.adr 0 0 0),(3,.val (.int .i64 v1.2.2))],[(0,.mix 26 [[.val (.int .i64 0),.val (.slice none 0 0),.val (.slice none 0 0),.val (.slice none 0 0),.val (.slice none 0 0),.val (.int .i64 0),.val (.slice none 0 0),.val (.slice none 0 0),.val (.slice none 0 0),.val (.slice none 0 0),.val (.slice none 0 0),.val (.slice none 0 0),.val (.int .i64 0),.val (.slice none 0 0),.val (.slice none 0 0),.val (.slice none 0 0),.val (.slice none 0 0),.val (.int .i64 0),.val (.slice none 0 0),.val (.slice none 0 0),.val (.slice none 0 0),.val (.slice none 0 0),.val (.slice none 0 0),.val (.slice none 0 0),.val (.slice none 0 0),.val (.slice none 0 0)]])],1⟩) (Wk.r1 [(1,0)] (by simp [hP,hhOk,back,Adj.cells,Cat.cells,Fn.cells,Mnd.cells,UA,U1,IA,I1,LA,L1,BA,B1,EA,E1,E2,eB,eI,eL])) ?_
  refine Qk ?_
  refine tr ?_
  have hr:=Option.some.inj h
  rw [← hr]
  refine ⟨_,(.cell tf_35 rfl rfl rfl (by simp) (by simp) (.tmp .nil)),?_⟩
  refine ⟨(.agg rfl (.one rfl rfl .nil)),[.val (.int .i64 0),.val (.slice none 0 0),.val (.slice none 0 0),.val (.slice none 0 0),.val (.slice none 0 0),.val (.int .i64 0),.val (.slice none 0 0),.val (.slice none 0 0),.val (.slice none 0 0),.val (.slice none 0 0),.val (.slice none 0 0),.val (.slice none 0 0),.val (.int .i64 0),.val (.slice none 0 0),.val (.slice none 0 0),.val (.slice none 0 0),.val (.slice none 0 0),.val (.int .i64 0),.val (.slice none 0 0),.val (.slice none 0 0),.val (.slice none 0 0),.val (.slice none 0 0),.val (.slice none 0 0),.val (.slice none 0 0),.val (.slice none 0 0),.val (.slice none 0 0),.val (.int .i64 v1.2.2)],[],by simp [Adj.cells,Cat.cells,Fn.cells,Mnd.cells,UA,U1,IA,I1,LA,L1,BA,B1,EA,E1,E2,eB,eI,eL],by simp,(.cons .refl (.cons .nil (.cons .nil (.cons .nil (.cons .nil (.cons .refl (.cons .nil (.cons .nil (.cons .nil (.cons .nil (.cons .nil (.cons .nil (.cons .refl (.cons .nil (.cons .nil (.cons .nil (.cons .nil (.cons .refl (.cons .nil (.cons .nil (.cons .nil (.cons .nil (.cons .nil (.cons .nil (.cons .nil (.cons .nil (.cons .refl .nil)))))))))))))))))))))))))))⟩
 have g2:¬ (¬ (v1.2.2=0)):=gQ
 clear g
 replace h:=if_r g2 h
 refine Qh ?_
 refine tn ?_
 refine Q6 ?_
 refine runQ hN fun K hK=>?_
 simp [-Q0,-Q8,-Q3,-Q9,-Q4,eL,eI,Q1,Qt,Q5,Qd,Qc,Adj.cells,Cat.cells,Fn.cells,Mnd.cells]
 repeat with_reducible refine sdQ ?_
 refine hK _ ?_;clear hK K
 refine tn ?_
 refine Qa (st':=⟨[(1,.adr 0 0 0),(2,.adr 1 0 0),(4,.adr 2 0 0),(5,.own 7 0 v1.2.1.length),(7,.adr 0 0 0)],[(0,.mix 14 [(Mnd.cells true m_)]),(1,.mix 26 [[.val (.int .i64 0),.val (.slice none 0 0),.val (.slice none 0 0),.val (.slice none 0 0),.val (.slice none 0 0),.val (.int .i64 0),.val (.slice none 0 0),.val (.slice none 0 0),.val (.slice none 0 0),.val (.slice none 0 0),.val (.slice none 0 0),.val (.slice none 0 0),.val (.int .i64 0),.val (.slice none 0 0),.val (.slice none 0 0),.val (.slice none 0 0),.val (.slice none 0 0),.val (.int .i64 0),.val (.slice none 0 0),.val (.slice none 0 0),.val (.slice none 0 0),.val (.slice none 0 0),.val (.slice none 0 0),.val (.slice none 0 0),.val (.slice none 0 0),.val (.slice none 0 0)]]),(2,.mix 5 [[.val (.int .i64 v1.1.n),.own 3 0 v1.1.fr.length,.own 4 0 v1.1.to.length,.own 5 0 v1.1.id.length,.own 6 0 v1.1.cs.length]]),(3,.row 1 (Is v1.1.fr)),(4,.row 1 (Is v1.1.to)),(5,.row 1 (Is v1.1.id)),(6,.row 1 (Ls v1.1.cs)),(7,.row 1 (Ls v1.2.1))],8⟩) (Wk.r1 [(0,0),(1,1),(2,2),(3,3),(4,4),(5,5),(6,6),(7,7)] (by simp [hP,hhOk,back,Adj.cells,Cat.cells,Fn.cells,Mnd.cells,UA,U1,IA,I1,LA,L1,BA,B1,EA,E1,E2,eB,eI,eL])) ?_
 refine Q6 ?_
 refine QV [] mo (by rw [hN];decide) fun K hK=>?_
 simp [-Q0,-Q8,-Q3,-Q9,-Q4,eL,eI,Q1,Qt,Q5,Qd,Qc,Adj.cells,Cat.cells,Fn.cells,Mnd.cells]
 repeat with_reducible refine sdQ ?_
 replace h:=bind_some h
 obtain ⟨v3,hv3,h⟩:=h
 refine Q6u (fz:=[]) false (Q5V _ v3 hv3) (PurK.ofL (.cons (.whole (by simp) (by simp) (by simp)) .nil)) ?_
 simp [-Q0,-Q8,-Q3,-Q9,-Q4,unk,unA,unE,unT,unC,flat,eL,eI,Q1,Qt,Q5,Qd,Qc,Adj.cells,Cat.cells,Fn.cells,Mnd.cells]
 repeat with_reducible refine sdQ ?_
 refine hK _ ?_;clear hK K
 refine tn ?_
 refine Qa (st':=⟨[(1,.adr 0 0 0),(2,.adr 1 0 0),(4,.adr 2 0 0),(5,.own 7 0 v1.2.1.length),(7,.adr 0 0 0),(8,.cmap .str (Msi v3))],[(0,.mix 14 [(Mnd.cells true m_)]),(1,.mix 26 [[.val (.int .i64 0),.val (.slice none 0 0),.val (.slice none 0 0),.val (.slice none 0 0),.val (.slice none 0 0),.val (.int .i64 0),.val (.slice none 0 0),.val (.slice none 0 0),.val (.slice none 0 0),.val (.slice none 0 0),.val (.slice none 0 0),.val (.slice none 0 0),.val (.int .i64 0),.val (.slice none 0 0),.val (.slice none 0 0),.val (.slice none 0 0),.val (.slice none 0 0),.val (.int .i64 0),.val (.slice none 0 0),.val (.slice none 0 0),.val (.slice none 0 0),.val (.slice none 0 0),.val (.slice none 0 0),.val (.slice none 0 0),.val (.slice none 0 0),.val (.slice none 0 0)]]),(2,.mix 5 [[.val (.int .i64 v1.1.n),.own 3 0 v1.1.fr.length,.own 4 0 v1.1.to.length,.own 5 0 v1.1.id.length,.own 6 0 v1.1.cs.length]]),(3,.row 1 (Is v1.1.fr)),(4,.row 1 (Is v1.1.to)),(5,.row 1 (Is v1.1.id)),(6,.row 1 (Ls v1.1.cs)),(7,.row 1 (Ls v1.2.1))],8⟩) (Wk.r1 [(0,0),(1,1),(2,2),(3,3),(4,4),(5,5),(6,6),(7,7)] (by simp [hP,hhOk,back,Adj.cells,Cat.cells,Fn.cells,Mnd.cells,UA,U1,IA,I1,LA,L1,BA,B1,EA,E1,E2,eB,eI,eL])) ?_
 refine Q6 ?_
 refine runQ hN fun K hK=>?_
 simp [-Q0,-Q8,-Q3,-Q9,-Q4,eL,eI,Q1,Qt,Q5,Qd,Qc,Adj.cells,Cat.cells,Fn.cells,Mnd.cells]
 repeat with_reducible refine sdQ ?_
 refine hK _ ?_;clear hK K
 refine tn ?_
 refine Qa (st':=⟨[(1,.adr 0 0 0),(2,.adr 1 0 0),(4,.adr 2 0 0),(5,.own 7 0 v1.2.1.length),(7,.adr 0 0 0),(8,.cmap .str (Msi v3)),(9,.own 8 0 0),(10,.own 9 0 0),(11,.own 10 0 0)],[(0,.mix 14 [(Mnd.cells true m_)]),(1,.mix 26 [[.val (.int .i64 0),.val (.slice none 0 0),.val (.slice none 0 0),.val (.slice none 0 0),.val (.slice none 0 0),.val (.int .i64 0),.val (.slice none 0 0),.val (.slice none 0 0),.val (.slice none 0 0),.val (.slice none 0 0),.val (.slice none 0 0),.val (.slice none 0 0),.val (.int .i64 0),.val (.slice none 0 0),.val (.slice none 0 0),.val (.slice none 0 0),.val (.slice none 0 0),.val (.int .i64 0),.val (.slice none 0 0),.val (.slice none 0 0),.val (.slice none 0 0),.val (.slice none 0 0),.val (.slice none 0 0),.val (.slice none 0 0),.val (.slice none 0 0),.val (.slice none 0 0)]]),(2,.mix 5 [[.val (.int .i64 v1.1.n),.own 3 0 v1.1.fr.length,.own 4 0 v1.1.to.length,.own 5 0 v1.1.id.length,.own 6 0 v1.1.cs.length]]),(3,.row 1 (Is v1.1.fr)),(4,.row 1 (Is v1.1.to)),(5,.row 1 (Is v1.1.id)),(6,.row 1 (Ls v1.1.cs)),(7,.row 1 (Ls v1.2.1)),(8,.mix 1 []),(9,.mix 1 []),(10,.mix 1 [])],11⟩) (Wk.r1 [(0,0),(1,1),(2,2),(3,3),(4,4),(5,5),(6,6),(7,7),(8,8),(9,9),(10,10)] (by simp [hP,hhOk,back,Adj.cells,Cat.cells,Fn.cells,Mnd.cells,UA,U1,IA,I1,LA,L1,BA,B1,EA,E1,E2,eB,eI,eL])) ?_
 refine Q6 ?_
 refine Q6 ?_
 refine runQ hN fun K hK=>?_
 simp [-Q0,-Q8,-Q3,-Q9,-Q4,eL,eI,Q1,Qt,Q5,Qd,Qc,Adj.cells,Cat.cells,Fn.cells,Mnd.cells]
 repeat with_reducible refine sdQ ?_
 refine hK _ ?_;clear hK K
 refine tn ?_
 refine Qa (st':=⟨[(1,.adr 0 0 0),(2,.adr 1 0 0),(4,.adr 2 0 0),(5,.own 7 0 v1.2.1.length),(7,.adr 0 0 0),(8,.cmap .str (Msi v3)),(9,.own 8 0 0),(10,.own 9 0 0),(11,.own 10 0 0),(40,.val (.int .i64 (m_.f.s.fr.length:Int))),(41,.val (.int .i64 0))],[(0,.mix 14 [(Mnd.cells true m_)]),(1,.mix 26 [[.val (.int .i64 0),.val (.slice none 0 0),.val (.slice none 0 0),.val (.slice none 0 0),.val (.slice none 0 0),.val (.int .i64 0),.val (.slice none 0 0),.val (.slice none 0 0),.val (.slice none 0 0),.val (.slice none 0 0),.val (.slice none 0 0),.val (.slice none 0 0),.val (.int .i64 0),.val (.slice none 0 0),.val (.slice none 0 0),.val (.slice none 0 0),.val (.slice none 0 0),.val (.int .i64 0),.val (.slice none 0 0),.val (.slice none 0 0),.val (.slice none 0 0),.val (.slice none 0 0),.val (.slice none 0 0),.val (.slice none 0 0),.val (.slice none 0 0),.val (.slice none 0 0)]]),(2,.mix 5 [[.val (.int .i64 v1.1.n),.own 3 0 v1.1.fr.length,.own 4 0 v1.1.to.length,.own 5 0 v1.1.id.length,.own 6 0 v1.1.cs.length]]),(3,.row 1 (Is v1.1.fr)),(4,.row 1 (Is v1.1.to)),(5,.row 1 (Is v1.1.id)),(6,.row 1 (Ls v1.1.cs)),(7,.row 1 (Ls v1.2.1)),(8,.mix 1 []),(9,.mix 1 []),(10,.mix 1 [])],11⟩) (Wk.r1 [(0,0),(1,1),(2,2),(3,3),(4,4),(5,5),(6,6),(7,7),(8,8),(9,9),(10,10)] (by simp [hP,hhOk,back,Adj.cells,Cat.cells,Fn.cells,Mnd.cells,UA,U1,IA,I1,LA,L1,BA,B1,EA,E1,E2,eB,eI,eL])) ?_
 replace h:=bind_some h
 obtain ⟨e4,h,h4⟩:=h
 refine Qm (fun b4:List Int=>⟨[(1,.adr 0 0 0),(2,.adr 1 0 0),(4,.adr 2 0 0),(5,.own 7 0 v1.2.1.length),(7,.adr 0 0 0),(8,.cmap .str (Msi v3)),(9,.own 8 0 b4.length),(10,.own 9 0 0),(11,.own 10 0 0)],[(0,.mix 14 [(Mnd.cells true m_)]),(1,.mix 26 [[.val (.int .i64 0),.val (.slice none 0 0),.val (.slice none 0 0),.val (.slice none 0 0),.val (.slice none 0 0),.val (.int .i64 0),.val (.slice none 0 0),.val (.slice none 0 0),.val (.slice none 0 0),.val (.slice none 0 0),.val (.slice none 0 0),.val (.slice none 0 0),.val (.int .i64 0),.val (.slice none 0 0),.val (.slice none 0 0),.val (.slice none 0 0),.val (.slice none 0 0),.val (.int .i64 0),.val (.slice none 0 0),.val (.slice none 0 0),.val (.slice none 0 0),.val (.slice none 0 0),.val (.slice none 0 0),.val (.slice none 0 0),.val (.slice none 0 0),.val (.slice none 0 0)]]),(2,.mix 5 [[.val (.int .i64 v1.1.n),.own 3 0 v1.1.fr.length,.own 4 0 v1.1.to.length,.own 5 0 v1.1.id.length,.own 6 0 v1.1.cs.length]]),(3,.row 1 (Is v1.1.fr)),(4,.row 1 (Is v1.1.to)),(5,.row 1 (Is v1.1.id)),(6,.row 1 (Ls v1.1.cs)),(7,.row 1 (Ls v1.2.1)),(8,.row 1 (Is b4)),(9,.mix 1 []),(10,.mix 1 [])],11⟩) (fun b4=>b4=e4) ?_ ?_
 ·refine Qf ?_
  refine Qy h (fun s13:List Int × Int=>⟨[(1,.adr 0 0 0),(2,.adr 1 0 0),(4,.adr 2 0 0),(5,.own 7 0 v1.2.1.length),(7,.adr 0 0 0),(8,.cmap .str (Msi v3)),(9,.own 8 0 s13.1.length),(10,.own 9 0 0),(11,.own 10 0 0),(40,.val (.int .i64 (m_.f.s.fr.length:Int))),(41,.val (.int .i64 s13.2))],[(0,.mix 14 [(Mnd.cells true m_)]),(1,.mix 26 [[.val (.int .i64 0),.val (.slice none 0 0),.val (.slice none 0 0),.val (.slice none 0 0),.val (.slice none 0 0),.val (.int .i64 0),.val (.slice none 0 0),.val (.slice none 0 0),.val (.slice none 0 0),.val (.slice none 0 0),.val (.slice none 0 0),.val (.slice none 0 0),.val (.int .i64 0),.val (.slice none 0 0),.val (.slice none 0 0),.val (.slice none 0 0),.val (.slice none 0 0),.val (.int .i64 0),.val (.slice none 0 0),.val (.slice none 0 0),.val (.slice none 0 0),.val (.slice none 0 0),.val (.slice none 0 0),.val (.slice none 0 0),.val (.slice none 0 0),.val (.slice none 0 0)]]),(2,.mix 5 [[.val (.int .i64 v1.1.n),.own 3 0 v1.1.fr.length,.own 4 0 v1.1.to.length,.own 5 0 v1.1.id.length,.own 6 0 v1.1.cs.length]]),(3,.row 1 (Is v1.1.fr)),(4,.row 1 (Is v1.1.to)),(5,.row 1 (Is v1.1.id)),(6,.row 1 (Ls v1.1.cs)),(7,.row 1 (Ls v1.2.1)),(8,.row 1 (Is s13.1)),(9,.mix 1 []),(10,.mix 1 [])],11⟩) (Q3h ⟨[(1,.adr 0 0 0),(2,.adr 1 0 0),(4,.adr 2 0 0),(5,.own 7 0 v1.2.1.length),(7,.adr 0 0 0),(8,.cmap .str (Msi v3)),(9,.own 8 0 0),(10,.own 9 0 0),(11,.own 10 0 0),(40,.val (.int .i64 (m_.f.s.fr.length:Int))),(41,.val (.int .i64 0))],[(0,.mix 14 [(Mnd.cells true m_)]),(1,.mix 26 [[.val (.int .i64 0),.val (.slice none 0 0),.val (.slice none 0 0),.val (.slice none 0 0),.val (.slice none 0 0),.val (.int .i64 0),.val (.slice none 0 0),.val (.slice none 0 0),.val (.slice none 0 0),.val (.slice none 0 0),.val (.slice none 0 0),.val (.slice none 0 0),.val (.int .i64 0),.val (.slice none 0 0),.val (.slice none 0 0),.val (.slice none 0 0),.val (.slice none 0 0),.val (.int .i64 0),.val (.slice none 0 0),.val (.slice none 0 0),.val (.slice none 0 0),.val (.slice none 0 0),.val (.slice none 0 0),.val (.slice none 0 0),.val (.slice none 0 0),.val (.slice none 0 0)]]),(2,.mix 5 [[.val (.int .i64 v1.1.n),.own 3 0 v1.1.fr.length,.own 4 0 v1.1.to.length,.own 5 0 v1.1.id.length,.own 6 0 v1.1.cs.length]]),(3,.row 1 (Is v1.1.fr)),(4,.row 1 (Is v1.1.to)),(5,.row 1 (Is v1.1.id)),(6,.row 1 (Ls v1.1.cs)),(7,.row 1 (Ls v1.2.1)),(8,.row 1 (Is [])),(9,.mix 1 []),(10,.mix 1 [])],11⟩ (Wk.nils [] (by simp) (by simp) (by simp [nlA]) (by simp [entN,nlL,nlA,Adj.cells,Cat.cells,Fn.cells,Mnd.cells,UA,U1,IA,I1,LA,L1,BA,B1,EA,E1,E2,eB,eI,eL]) (by simp)) (Wk.r1 [(0,0),(1,1),(2,2),(3,3),(4,4),(5,5),(6,6),(7,7),(8,8),(9,9),(10,10)] (by simp [hP,hhOk,back,Adj.cells,Cat.cells,Fn.cells,Mnd.cells,UA,U1,IA,I1,LA,L1,BA,B1,EA,E1,E2,eB,eI,eL]))) ?_
  clear h
  intro k13 s13 c13 h hk13
  refine Q6 ?_
  refine runQ hN fun K hK=>?_
  simp [-Q0,-Q8,-Q3,-Q9,-Q4,eL,eI,Q1,Qt,Q5,Qd,Qc,Adj.cells,Cat.cells,Fn.cells,Mnd.cells]
  repeat with_reducible refine sdQ ?_
  refine hK _ ?_;clear hK K
  refine tn ?_
  refine Qa (st':=⟨[(1,.adr 0 0 0),(2,.adr 1 0 0),(4,.adr 2 0 0),(5,.own 7 0 v1.2.1.length),(7,.adr 0 0 0),(8,.cmap .str (Msi v3)),(9,.own 8 0 s13.1.length),(10,.own 9 0 0),(11,.own 10 0 0),(40,.val (.int .i64 (m_.f.s.fr.length:Int))),(41,.val (.int .i64 s13.2)),(42,.val (.bool (decide (s13.2<(m_.f.s.fr.length:Int)))))],[(0,.mix 14 [(Mnd.cells true m_)]),(1,.mix 26 [[.val (.int .i64 0),.val (.slice none 0 0),.val (.slice none 0 0),.val (.slice none 0 0),.val (.slice none 0 0),.val (.int .i64 0),.val (.slice none 0 0),.val (.slice none 0 0),.val (.slice none 0 0),.val (.slice none 0 0),.val (.slice none 0 0),.val (.slice none 0 0),.val (.int .i64 0),.val (.slice none 0 0),.val (.slice none 0 0),.val (.slice none 0 0),.val (.slice none 0 0),.val (.int .i64 0),.val (.slice none 0 0),.val (.slice none 0 0),.val (.slice none 0 0),.val (.slice none 0 0),.val (.slice none 0 0),.val (.slice none 0 0),.val (.slice none 0 0),.val (.slice none 0 0)]]),(2,.mix 5 [[.val (.int .i64 v1.1.n),.own 3 0 v1.1.fr.length,.own 4 0 v1.1.to.length,.own 5 0 v1.1.id.length,.own 6 0 v1.1.cs.length]]),(3,.row 1 (Is v1.1.fr)),(4,.row 1 (Is v1.1.to)),(5,.row 1 (Is v1.1.id)),(6,.row 1 (Ls v1.1.cs)),(7,.row 1 (Ls v1.2.1)),(8,.row 1 (Is s13.1)),(9,.mix 1 []),(10,.mix 1 [])],11⟩) (Wk.r1 [(0,0),(1,1),(2,2),(3,3),(4,4),(5,5),(6,6),(7,7),(8,8),(9,9),(10,10)] (by simp [hP,hhOk,back,Adj.cells,Cat.cells,Fn.cells,Mnd.cells,UA,U1,IA,I1,LA,L1,BA,B1,EA,E1,E2,eB,eI,eL])) ?_
  refine Q6 ?_
  refine Qg rfl (fun g=>?_) fun g=>?_
  ·have g14:s13.2<(m_.f.s.fr.length:Int):=gQ
   clear g
   replace h:=if_l g14 h
   refine Qh ?_
   refine tn ?_
   refine Q6 ?_
   refine Qf ?_
   refine Q6 ?_
   refine runQ hN fun K hK=>?_
   simp [-Q0,-Q8,-Q3,-Q9,-Q4,eL,eI,Q1,Qt,Q5,Qd,Qc,Adj.cells,Cat.cells,Fn.cells,Mnd.cells]
   repeat with_reducible refine sdQ ?_
   refine hK _ ?_;clear hK K
   refine tn ?_
   refine Qa (st':=⟨[(1,.adr 0 0 0),(2,.adr 1 0 0),(4,.adr 2 0 0),(5,.own 7 0 v1.2.1.length),(7,.adr 0 0 0),(8,.cmap .str (Msi v3)),(9,.own 8 0 s13.1.length),(10,.own 9 0 0),(11,.own 10 0 0),(12,.val (.int .i64 s13.2)),(40,.val (.int .i64 (m_.f.s.fr.length:Int))),(41,.val (.int .i64 s13.2))],[(0,.mix 14 [(Mnd.cells true m_)]),(1,.mix 26 [[.val (.int .i64 0),.val (.slice none 0 0),.val (.slice none 0 0),.val (.slice none 0 0),.val (.slice none 0 0),.val (.int .i64 0),.val (.slice none 0 0),.val (.slice none 0 0),.val (.slice none 0 0),.val (.slice none 0 0),.val (.slice none 0 0),.val (.slice none 0 0),.val (.int .i64 0),.val (.slice none 0 0),.val (.slice none 0 0),.val (.slice none 0 0),.val (.slice none 0 0),.val (.int .i64 0),.val (.slice none 0 0),.val (.slice none 0 0),.val (.slice none 0 0),.val (.slice none 0 0),.val (.slice none 0 0),.val (.slice none 0 0),.val (.slice none 0 0),.val (.slice none 0 0)]]),(2,.mix 5 [[.val (.int .i64 v1.1.n),.own 3 0 v1.1.fr.length,.own 4 0 v1.1.to.length,.own 5 0 v1.1.id.length,.own 6 0 v1.1.cs.length]]),(3,.row 1 (Is v1.1.fr)),(4,.row 1 (Is v1.1.to)),(5,.row 1 (Is v1.1.id)),(6,.row 1 (Ls v1.1.cs)),(7,.row 1 (Ls v1.2.1)),(8,.row 1 (Is s13.1)),(9,.mix 1 []),(10,.mix 1 [])],11⟩) (Wk.r1 [(0,0),(1,1),(2,2),(3,3),(4,4),(5,5),(6,6),(7,7),(8,8),(9,9),(10,10)] (by simp [hP,hhOk,back,Adj.cells,Cat.cells,Fn.cells,Mnd.cells,UA,U1,IA,I1,LA,L1,BA,B1,EA,E1,E2,eB,eI,eL])) ?_
   refine Q6 ?_
   refine runQ hN fun K hK=>?_
   replace h:=Q7 h
   obtain ⟨a15,h⟩:=h
   simp [-Q0,-Q8,-Q3,-Q9,-Q4,eL,eI,Q1,Qt,Q5,Qd,Qc,Adj.cells,Cat.cells,Fn.cells,Mnd.cells,at_I a15]
   repeat with_reducible refine sdQ ?_
   refine hK _ ?_;clear hK K
   refine tn ?_
   refine Qa (st':=⟨[(1,.adr 0 0 0),(2,.adr 1 0 0),(4,.adr 2 0 0),(5,.own 7 0 v1.2.1.length),(7,.adr 0 0 0),(8,.cmap .str (Msi v3)),(9,.own 8 0 s13.1.length),(10,.own 9 0 0),(11,.own 10 0 0),(12,.val (.int .i64 s13.2)),(13,.val (.int .i64 (ix m_.f.s.to s13.2))),(40,.val (.int .i64 (m_.f.s.fr.length:Int))),(41,.val (.int .i64 s13.2))],[(0,.mix 14 [(Mnd.cells true m_)]),(1,.mix 26 [[.val (.int .i64 0),.val (.slice none 0 0),.val (.slice none 0 0),.val (.slice none 0 0),.val (.slice none 0 0),.val (.int .i64 0),.val (.slice none 0 0),.val (.slice none 0 0),.val (.slice none 0 0),.val (.slice none 0 0),.val (.slice none 0 0),.val (.slice none 0 0),.val (.int .i64 0),.val (.slice none 0 0),.val (.slice none 0 0),.val (.slice none 0 0),.val (.slice none 0 0),.val (.int .i64 0),.val (.slice none 0 0),.val (.slice none 0 0),.val (.slice none 0 0),.val (.slice none 0 0),.val (.slice none 0 0),.val (.slice none 0 0),.val (.slice none 0 0),.val (.slice none 0 0)]]),(2,.mix 5 [[.val (.int .i64 v1.1.n),.own 3 0 v1.1.fr.length,.own 4 0 v1.1.to.length,.own 5 0 v1.1.id.length,.own 6 0 v1.1.cs.length]]),(3,.row 1 (Is v1.1.fr)),(4,.row 1 (Is v1.1.to)),(5,.row 1 (Is v1.1.id)),(6,.row 1 (Ls v1.1.cs)),(7,.row 1 (Ls v1.2.1)),(8,.row 1 (Is s13.1)),(9,.mix 1 []),(10,.mix 1 [])],11⟩) (Wk.r1 [(0,0),(1,1),(2,2),(3,3),(4,4),(5,5),(6,6),(7,7),(8,8),(9,9),(10,10)] (by simp [hP,hhOk,back,Adj.cells,Cat.cells,Fn.cells,Mnd.cells,UA,U1,IA,I1,LA,L1,BA,B1,EA,E1,E2,eB,eI,eL])) ?_
   refine QV [] mo (by rw [hN];decide) fun K hK=>?_
   replace h:=Q7 h
   obtain ⟨a16,h⟩:=h
   replace h:=Q7 h
   obtain ⟨a17,h⟩:=h
   simp [-Q0,-Q8,-Q3,-Q9,-Q4,eL,eI,Q1,Qt,Q5,Qd,Qc,Adj.cells,Cat.cells,Fn.cells,Mnd.cells,at_I a16,at_I a17]
   repeat with_reducible refine sdQ ?_
   replace h:=bind_some h
   obtain ⟨v18,hv18,h⟩:=h
   refine Q1h (fz:=[]) (QB _ _ _ v18 hv18) (.cons (.field rfl (by simp [Adj.cells,Cat.cells,Mnd.cells]) (.cons .val (.cons .lst (.cons .lst (.cons .lst (.cons .lst .nil)))))) (.cons .val (.cons .val .nil))) ?_
   simp [-Q0,-Q8,-Q3,-Q9,-Q4,unk,unA,unE,unT,unC,flat,eL,eI,Q1,Qt,Q5,Qd,Qc,Adj.cells,Cat.cells,Fn.cells,Mnd.cells,at_I a16,at_I a17]
   repeat with_reducible refine sdQ ?_
   replace h:=bind_some h
   obtain ⟨v19,hv19,h⟩:=h
   refine Q1h (fz:=[]) (Q5r _ v19 hv19) (.cons (.lits (es:=_) rfl (.cons rfl (.cons (.lits (es:=_) rfl (.cons rfl (.cons .val .nil) (.cons rfl (.cons .val .nil) (.cons rfl (.cons .val .nil) .nil))) rfl) .nil) .nil) rfl) .nil) ?_
   replace h:=Q7 h
   obtain ⟨a20,h⟩:=h
   try simp only [List.length_append,List.length_cons,List.length_nil] at a20
   simp [-Q0,-Q8,-Q3,-Q9,-Q4,unk,unA,unE,unT,unC,flat,eL,eI,Q1,Qt,Q5,Qd,Qc,Adj.cells,Cat.cells,Fn.cells,Mnd.cells,at_I a16,at_I a17,a20]
   repeat with_reducible refine sdQ ?_
   refine hK _ ?_;clear hK K
   refine bn ?_
   refine tn ?_
   refine Qa (st':=⟨[(1,.adr 0 0 0),(2,.adr 1 0 0),(4,.adr 2 0 0),(5,.own 7 0 v1.2.1.length),(7,.adr 0 0 0),(8,.cmap .str (Msi v3)),(9,.own 8 0 ((s13.1++[(Q1E v19 v3).getD 0]).length)),(10,.own 9 0 0),(11,.own 10 0 0),(40,.val (.int .i64 (m_.f.s.fr.length:Int))),(41,.val (.int .i64 s13.2))],[(0,.mix 14 [(Mnd.cells true m_)]),(1,.mix 26 [[.val (.int .i64 0),.val (.slice none 0 0),.val (.slice none 0 0),.val (.slice none 0 0),.val (.slice none 0 0),.val (.int .i64 0),.val (.slice none 0 0),.val (.slice none 0 0),.val (.slice none 0 0),.val (.slice none 0 0),.val (.slice none 0 0),.val (.slice none 0 0),.val (.int .i64 0),.val (.slice none 0 0),.val (.slice none 0 0),.val (.slice none 0 0),.val (.slice none 0 0),.val (.int .i64 0),.val (.slice none 0 0),.val (.slice none 0 0),.val (.slice none 0 0),.val (.slice none 0 0),.val (.slice none 0 0),.val (.slice none 0 0),.val (.slice none 0 0),.val (.slice none 0 0)]]),(2,.mix 5 [[.val (.int .i64 v1.1.n),.own 3 0 v1.1.fr.length,.own 4 0 v1.1.to.length,.own 5 0 v1.1.id.length,.own 6 0 v1.1.cs.length]]),(3,.row 1 (Is v1.1.fr)),(4,.row 1 (Is v1.1.to)),(5,.row 1 (Is v1.1.id)),(6,.row 1 (Ls v1.1.cs)),(7,.row 1 (Ls v1.2.1)),(8,.row 1 (Is (s13.1++[(Q1E v19 v3).getD 0]))),(9,.mix 1 []),(10,.mix 1 [])],11⟩) (Wk.r1 [(0,0),(1,1),(2,2),(3,3),(4,4),(5,5),(6,6),(7,7),(16,8),(9,9),(10,10)] (by simp [hP,hhOk,back,Adj.cells,Cat.cells,Fn.cells,Mnd.cells,UA,U1,IA,I1,LA,L1,BA,B1,EA,E1,E2,eB,eI,eL])) ?_
   refine runQ hN fun K hK=>?_
   replace h:=Q7 h
   obtain ⟨a21,h⟩:=h
   simp [-Q0,-Q8,-Q3,-Q9,-Q4,eL,eI,Q1,Qt,Q5,Qd,Qc,Adj.cells,Cat.cells,Fn.cells,Mnd.cells,Qw a21]
   repeat with_reducible refine sdQ ?_
   refine hK _ ?_;clear hK K
   cases h
   exact rn (s':=(s13.1++[(Q1E v19 v3).getD 0],s13.2+1)) hk13 (Wk.r1 [(0,0),(1,1),(2,2),(3,3),(4,4),(5,5),(6,6),(7,7),(8,8),(9,9),(10,10)] (by simp [hP,hhOk,back,Adj.cells,Cat.cells,Fn.cells,Mnd.cells,UA,U1,IA,I1,LA,L1,BA,B1,EA,E1,E2,eB,eI,eL]))
  have g14:¬ (s13.2<(m_.f.s.fr.length:Int)):=gQ
  clear g
  replace h:=if_r g14 h
  refine Qp ?_
  refine tx ?_
  refine lx ?_
  refine bh ?_
  cases h
  exact jn (b:=s13.1) hk13 (Wk.r1 [(0,0),(1,1),(2,2),(3,3),(4,4),(5,5),(6,6),(7,7),(8,8),(9,9),(10,10)] (by simp [hP,hhOk,back,Adj.cells,Cat.cells,Fn.cells,Mnd.cells,UA,U1,IA,I1,LA,L1,BA,B1,EA,E1,E2,eB,eI,eL]))
 intro b4 hb4
 have h:=h4
 rw [← hb4] at h
 clear h4
 try dsimp only at h
 refine Q6 ?_
 refine Q6 ?_
 refine runQ hN fun K hK=>?_
 simp [-Q0,-Q8,-Q3,-Q9,-Q4,eL,eI,Q1,Qt,Q5,Qd,Qc,Adj.cells,Cat.cells,Fn.cells,Mnd.cells]
 repeat with_reducible refine sdQ ?_
 refine hK _ ?_;clear hK K
 refine tn ?_
 refine Qa (st':=⟨[(1,.adr 0 0 0),(2,.adr 1 0 0),(4,.adr 2 0 0),(7,.adr 0 0 0),(8,.cmap .str (Msi v3)),(9,.own 7 0 b4.length),(10,.own 8 0 0),(11,.own 9 0 0),(76,.own 10 0 v1.2.1.length),(77,.val (.int .i64 (v1.2.1.length:Int))),(78,.val (.int .i64 0))],[(0,.mix 14 [(Mnd.cells true m_)]),(1,.mix 26 [[.val (.int .i64 0),.val (.slice none 0 0),.val (.slice none 0 0),.val (.slice none 0 0),.val (.slice none 0 0),.val (.int .i64 0),.val (.slice none 0 0),.val (.slice none 0 0),.val (.slice none 0 0),.val (.slice none 0 0),.val (.slice none 0 0),.val (.slice none 0 0),.val (.int .i64 0),.val (.slice none 0 0),.val (.slice none 0 0),.val (.slice none 0 0),.val (.slice none 0 0),.val (.int .i64 0),.val (.slice none 0 0),.val (.slice none 0 0),.val (.slice none 0 0),.val (.slice none 0 0),.val (.slice none 0 0),.val (.slice none 0 0),.val (.slice none 0 0),.val (.slice none 0 0)]]),(2,.mix 5 [[.val (.int .i64 v1.1.n),.own 3 0 v1.1.fr.length,.own 4 0 v1.1.to.length,.own 5 0 v1.1.id.length,.own 6 0 v1.1.cs.length]]),(3,.row 1 (Is v1.1.fr)),(4,.row 1 (Is v1.1.to)),(5,.row 1 (Is v1.1.id)),(6,.row 1 (Ls v1.1.cs)),(7,.row 1 (Is b4)),(8,.mix 1 []),(9,.mix 1 []),(10,.row 1 (Ls v1.2.1))],11⟩) (Wk.r1 [(0,0),(1,1),(2,2),(3,3),(4,4),(5,5),(6,6),(8,7),(9,8),(10,9),(7,10)] (by simp [hP,hhOk,back,Adj.cells,Cat.cells,Fn.cells,Mnd.cells,UA,U1,IA,I1,LA,L1,BA,B1,EA,E1,E2,eB,eI,eL])) ?_
 replace h:=bind_some h
 obtain ⟨e22,h,h22⟩:=h
 refine Qm (fun b22:List Int=>⟨[(1,.adr 0 0 0),(2,.adr 1 0 0),(4,.adr 2 0 0),(7,.adr 0 0 0),(8,.cmap .str (Msi v3)),(9,.own 7 0 b4.length),(10,.own 8 0 b22.length),(11,.own 9 0 0)],[(0,.mix 14 [(Mnd.cells true m_)]),(1,.mix 26 [[.val (.int .i64 0),.val (.slice none 0 0),.val (.slice none 0 0),.val (.slice none 0 0),.val (.slice none 0 0),.val (.int .i64 0),.val (.slice none 0 0),.val (.slice none 0 0),.val (.slice none 0 0),.val (.slice none 0 0),.val (.slice none 0 0),.val (.slice none 0 0),.val (.int .i64 0),.val (.slice none 0 0),.val (.slice none 0 0),.val (.slice none 0 0),.val (.slice none 0 0),.val (.int .i64 0),.val (.slice none 0 0),.val (.slice none 0 0),.val (.slice none 0 0),.val (.slice none 0 0),.val (.slice none 0 0),.val (.slice none 0 0),.val (.slice none 0 0),.val (.slice none 0 0)]]),(2,.mix 5 [[.val (.int .i64 v1.1.n),.own 3 0 v1.1.fr.length,.own 4 0 v1.1.to.length,.own 5 0 v1.1.id.length,.own 6 0 v1.1.cs.length]]),(3,.row 1 (Is v1.1.fr)),(4,.row 1 (Is v1.1.to)),(5,.row 1 (Is v1.1.id)),(6,.row 1 (Ls v1.1.cs)),(7,.row 1 (Is b4)),(8,.row 1 (Is b22)),(9,.mix 1 [])],10⟩) (fun b22=>b22=e22) ?_ ?_
 ·refine Qf ?_
  refine Qy h (fun s32:List Int × Int=>⟨[(1,.adr 0 0 0),(2,.adr 1 0 0),(4,.adr 2 0 0),(7,.adr 0 0 0),(8,.cmap .str (Msi v3)),(9,.own 7 0 b4.length),(10,.own 8 0 s32.1.length),(11,.own 9 0 0),(76,.own 10 0 v1.2.1.length),(77,.val (.int .i64 (v1.2.1.length:Int))),(78,.val (.int .i64 s32.2))],[(0,.mix 14 [(Mnd.cells true m_)]),(1,.mix 26 [[.val (.int .i64 0),.val (.slice none 0 0),.val (.slice none 0 0),.val (.slice none 0 0),.val (.slice none 0 0),.val (.int .i64 0),.val (.slice none 0 0),.val (.slice none 0 0),.val (.slice none 0 0),.val (.slice none 0 0),.val (.slice none 0 0),.val (.slice none 0 0),.val (.int .i64 0),.val (.slice none 0 0),.val (.slice none 0 0),.val (.slice none 0 0),.val (.slice none 0 0),.val (.int .i64 0),.val (.slice none 0 0),.val (.slice none 0 0),.val (.slice none 0 0),.val (.slice none 0 0),.val (.slice none 0 0),.val (.slice none 0 0),.val (.slice none 0 0),.val (.slice none 0 0)]]),(2,.mix 5 [[.val (.int .i64 v1.1.n),.own 3 0 v1.1.fr.length,.own 4 0 v1.1.to.length,.own 5 0 v1.1.id.length,.own 6 0 v1.1.cs.length]]),(3,.row 1 (Is v1.1.fr)),(4,.row 1 (Is v1.1.to)),(5,.row 1 (Is v1.1.id)),(6,.row 1 (Ls v1.1.cs)),(7,.row 1 (Is b4)),(8,.row 1 (Is s32.1)),(9,.mix 1 []),(10,.row 1 (Ls v1.2.1))],11⟩) (Q3h ⟨[(1,.adr 0 0 0),(2,.adr 1 0 0),(4,.adr 2 0 0),(7,.adr 0 0 0),(8,.cmap .str (Msi v3)),(9,.own 7 0 b4.length),(10,.own 8 0 0),(11,.own 9 0 0),(76,.own 10 0 v1.2.1.length),(77,.val (.int .i64 (v1.2.1.length:Int))),(78,.val (.int .i64 0))],[(0,.mix 14 [(Mnd.cells true m_)]),(1,.mix 26 [[.val (.int .i64 0),.val (.slice none 0 0),.val (.slice none 0 0),.val (.slice none 0 0),.val (.slice none 0 0),.val (.int .i64 0),.val (.slice none 0 0),.val (.slice none 0 0),.val (.slice none 0 0),.val (.slice none 0 0),.val (.slice none 0 0),.val (.slice none 0 0),.val (.int .i64 0),.val (.slice none 0 0),.val (.slice none 0 0),.val (.slice none 0 0),.val (.slice none 0 0),.val (.int .i64 0),.val (.slice none 0 0),.val (.slice none 0 0),.val (.slice none 0 0),.val (.slice none 0 0),.val (.slice none 0 0),.val (.slice none 0 0),.val (.slice none 0 0),.val (.slice none 0 0)]]),(2,.mix 5 [[.val (.int .i64 v1.1.n),.own 3 0 v1.1.fr.length,.own 4 0 v1.1.to.length,.own 5 0 v1.1.id.length,.own 6 0 v1.1.cs.length]]),(3,.row 1 (Is v1.1.fr)),(4,.row 1 (Is v1.1.to)),(5,.row 1 (Is v1.1.id)),(6,.row 1 (Ls v1.1.cs)),(7,.row 1 (Is b4)),(8,.row 1 (Is [])),(9,.mix 1 []),(10,.row 1 (Ls v1.2.1))],11⟩ (Wk.nils [] (by simp) (by simp) (by simp [nlA]) (by simp [entN,nlL,nlA,Adj.cells,Cat.cells,Fn.cells,Mnd.cells,UA,U1,IA,I1,LA,L1,BA,B1,EA,E1,E2,eB,eI,eL]) (by simp)) (Wk.r1 [(0,0),(1,1),(2,2),(3,3),(4,4),(5,5),(6,6),(7,7),(8,8),(9,9),(10,10)] (by simp [hP,hhOk,back,Adj.cells,Cat.cells,Fn.cells,Mnd.cells,UA,U1,IA,I1,LA,L1,BA,B1,EA,E1,E2,eB,eI,eL]))) ?_
  clear h
  intro k32 s32 c32 h hk32
  refine Q6 ?_
  refine runQ hN fun K hK=>?_
  simp [-Q0,-Q8,-Q3,-Q9,-Q4,eL,eI,Q1,Qt,Q5,Qd,Qc,Adj.cells,Cat.cells,Fn.cells,Mnd.cells]
  repeat with_reducible refine sdQ ?_
  refine hK _ ?_;clear hK K
  refine tn ?_
  refine Qa (st':=⟨[(1,.adr 0 0 0),(2,.adr 1 0 0),(4,.adr 2 0 0),(7,.adr 0 0 0),(8,.cmap .str (Msi v3)),(9,.own 7 0 b4.length),(10,.own 8 0 s32.1.length),(11,.own 9 0 0),(76,.own 10 0 v1.2.1.length),(77,.val (.int .i64 (v1.2.1.length:Int))),(78,.val (.int .i64 s32.2)),(79,.val (.bool (decide (s32.2<(v1.2.1.length:Int)))))],[(0,.mix 14 [(Mnd.cells true m_)]),(1,.mix 26 [[.val (.int .i64 0),.val (.slice none 0 0),.val (.slice none 0 0),.val (.slice none 0 0),.val (.slice none 0 0),.val (.int .i64 0),.val (.slice none 0 0),.val (.slice none 0 0),.val (.slice none 0 0),.val (.slice none 0 0),.val (.slice none 0 0),.val (.slice none 0 0),.val (.int .i64 0),.val (.slice none 0 0),.val (.slice none 0 0),.val (.slice none 0 0),.val (.slice none 0 0),.val (.int .i64 0),.val (.slice none 0 0),.val (.slice none 0 0),.val (.slice none 0 0),.val (.slice none 0 0),.val (.slice none 0 0),.val (.slice none 0 0),.val (.slice none 0 0),.val (.slice none 0 0)]]),(2,.mix 5 [[.val (.int .i64 v1.1.n),.own 3 0 v1.1.fr.length,.own 4 0 v1.1.to.length,.own 5 0 v1.1.id.length,.own 6 0 v1.1.cs.length]]),(3,.row 1 (Is v1.1.fr)),(4,.row 1 (Is v1.1.to)),(5,.row 1 (Is v1.1.id)),(6,.row 1 (Ls v1.1.cs)),(7,.row 1 (Is b4)),(8,.row 1 (Is s32.1)),(9,.mix 1 []),(10,.row 1 (Ls v1.2.1))],11⟩) (Wk.r1 [(0,0),(1,1),(2,2),(3,3),(4,4),(5,5),(6,6),(7,7),(8,8),(9,9),(10,10)] (by simp [hP,hhOk,back,Adj.cells,Cat.cells,Fn.cells,Mnd.cells,UA,U1,IA,I1,LA,L1,BA,B1,EA,E1,E2,eB,eI,eL])) ?_
  refine Q6 ?_
  refine Qg rfl (fun g=>?_) fun g=>?_
  ·have g33:s32.2<(v1.2.1.length:Int):=gQ
   clear g
   replace h:=if_l g33 h
   refine Qh ?_
   refine tn ?_
   refine Q6 ?_
   refine Qf ?_
   refine Q6 ?_
   refine runQ hN fun K hK=>?_
   replace h:=Q7 h
   obtain ⟨a34,h⟩:=h
   simp [-Q0,-Q8,-Q3,-Q9,-Q4,eL,eI,Q1,Qt,Q5,Qd,Qc,Adj.cells,Cat.cells,Fn.cells,Mnd.cells,at_L a34]
   repeat with_reducible refine sdQ ?_
   refine hK _ ?_;clear hK K
   refine tn ?_
   refine Qa (st':=⟨[(1,.adr 0 0 0),(2,.adr 1 0 0),(4,.adr 2 0 0),(7,.adr 0 0 0),(8,.cmap .str (Msi v3)),(9,.own 7 0 b4.length),(10,.own 8 0 s32.1.length),(11,.own 9 0 0),(15,.own 11 0 ((rx v1.2.1 s32.2).length)),(76,.own 10 0 v1.2.1.length),(77,.val (.int .i64 (v1.2.1.length:Int))),(78,.val (.int .i64 s32.2))],[(0,.mix 14 [(Mnd.cells true m_)]),(1,.mix 26 [[.val (.int .i64 0),.val (.slice none 0 0),.val (.slice none 0 0),.val (.slice none 0 0),.val (.slice none 0 0),.val (.int .i64 0),.val (.slice none 0 0),.val (.slice none 0 0),.val (.slice none 0 0),.val (.slice none 0 0),.val (.slice none 0 0),.val (.slice none 0 0),.val (.int .i64 0),.val (.slice none 0 0),.val (.slice none 0 0),.val (.slice none 0 0),.val (.slice none 0 0),.val (.int .i64 0),.val (.slice none 0 0),.val (.slice none 0 0),.val (.slice none 0 0),.val (.slice none 0 0),.val (.slice none 0 0),.val (.slice none 0 0),.val (.slice none 0 0),.val (.slice none 0 0)]]),(2,.mix 5 [[.val (.int .i64 v1.1.n),.own 3 0 v1.1.fr.length,.own 4 0 v1.1.to.length,.own 5 0 v1.1.id.length,.own 6 0 v1.1.cs.length]]),(3,.row 1 (Is v1.1.fr)),(4,.row 1 (Is v1.1.to)),(5,.row 1 (Is v1.1.id)),(6,.row 1 (Ls v1.1.cs)),(7,.row 1 (Is b4)),(8,.row 1 (Is s32.1)),(9,.mix 1 []),(10,.row 1 (Ls v1.2.1)),(11,.ali 10 s32.2.toNat 0 1)],12⟩) (Wk.r1 [(0,0),(1,1),(2,2),(3,3),(4,4),(5,5),(6,6),(7,7),(8,8),(9,9),(11,11),(10,10)] (by simp [hP,hhOk,back,Adj.cells,Cat.cells,Fn.cells,Mnd.cells,UA,U1,IA,I1,LA,L1,BA,B1,EA,E1,E2,eB,eI,eL])) ?_
   refine runQ hN fun K hK=>?_
   replace h:=Q7 h
   obtain ⟨a35,h⟩:=h
   simp [-Q0,-Q8,-Q3,-Q9,-Q4,eL,eI,Q1,Qt,Q5,Qd,Qc,Adj.cells,Cat.cells,Fn.cells,Mnd.cells,at_L a34,(show (Is (rx v1.2.1 s32.2))[2]? = some [.val (.int .i64 (ix (rx v1.2.1 s32.2) 2))] from at_I (j:=2) a35)]
   repeat with_reducible refine sdQ ?_
   replace h:=bind_some h
   obtain ⟨v36,hv36,h⟩:=h
   refine Q2 (Q2E _ _ v36 hv36) (.cons (.field rfl (by simp [Adj.cells,Cat.cells,Mnd.cells]) (.cons .val (.cons .lst (.cons .lst (.cons .lst (.cons .lst (.cons .val (.cons .lst (.cons .lst (.cons .lst (.cons .lst (.cons .lst (.cons .lst (.cons .lst (.cons .lst .nil))))))))))))))) (.cons .val .nil)) ?_
   replace h:=Q7 h
   obtain ⟨a37,h⟩:=h
   replace h:=Q7 h
   obtain ⟨a38,h⟩:=h
   simp [-Q0,-Q8,-Q3,-Q9,-Q4,unk,unA,unE,unT,unC,flat,eL,eI,Q1,Qt,Q5,Qd,Qc,Adj.cells,Cat.cells,Fn.cells,Mnd.cells,at_L a34,(show (Is (rx v1.2.1 s32.2))[1]? = some [.val (.int .i64 (ix (rx v1.2.1 s32.2) 1))] from at_I (j:=1) a37),at_I a38]
   repeat with_reducible refine sdQ ?_
   replace h:=bind_some h
   obtain ⟨v39,hv39,h⟩:=h
   refine Q2 (QB _ _ _ v39 hv39) (.cons (.field rfl (by simp [Adj.cells,Cat.cells,Mnd.cells]) (.cons .val (.cons .lst (.cons .lst (.cons .lst (.cons .lst .nil)))))) (.cons .val (.cons .val .nil))) ?_
   replace h:=Q7 h
   obtain ⟨a40,h⟩:=h
   try simp only [List.length_append,List.length_cons,List.length_nil] at a40
   simp [-Q0,-Q8,-Q3,-Q9,-Q4,unk,unA,unE,unT,unC,flat,eL,eI,Q1,Qt,Q5,Qd,Qc,Adj.cells,Cat.cells,Fn.cells,Mnd.cells,at_L a34,at_I a38,a40]
   repeat with_reducible refine sdQ ?_
   refine hK _ ?_;clear hK K
   refine bn ?_
   refine tn ?_
   refine Qa (st':=⟨[(1,.adr 0 0 0),(2,.adr 1 0 0),(4,.adr 2 0 0),(7,.adr 0 0 0),(8,.cmap .str (Msi v3)),(9,.own 7 0 b4.length),(10,.own 8 0 ((s32.1++[v39]).length)),(11,.own 9 0 0),(76,.own 10 0 v1.2.1.length),(77,.val (.int .i64 (v1.2.1.length:Int))),(78,.val (.int .i64 s32.2))],[(0,.mix 14 [(Mnd.cells true m_)]),(1,.mix 26 [[.val (.int .i64 0),.val (.slice none 0 0),.val (.slice none 0 0),.val (.slice none 0 0),.val (.slice none 0 0),.val (.int .i64 0),.val (.slice none 0 0),.val (.slice none 0 0),.val (.slice none 0 0),.val (.slice none 0 0),.val (.slice none 0 0),.val (.slice none 0 0),.val (.int .i64 0),.val (.slice none 0 0),.val (.slice none 0 0),.val (.slice none 0 0),.val (.slice none 0 0),.val (.int .i64 0),.val (.slice none 0 0),.val (.slice none 0 0),.val (.slice none 0 0),.val (.slice none 0 0),.val (.slice none 0 0),.val (.slice none 0 0),.val (.slice none 0 0),.val (.slice none 0 0)]]),(2,.mix 5 [[.val (.int .i64 v1.1.n),.own 3 0 v1.1.fr.length,.own 4 0 v1.1.to.length,.own 5 0 v1.1.id.length,.own 6 0 v1.1.cs.length]]),(3,.row 1 (Is v1.1.fr)),(4,.row 1 (Is v1.1.to)),(5,.row 1 (Is v1.1.id)),(6,.row 1 (Ls v1.1.cs)),(7,.row 1 (Is b4)),(8,.row 1 (Is (s32.1++[v39]))),(9,.mix 1 []),(10,.row 1 (Ls v1.2.1))],11⟩) (Wk.r1 [(0,0),(1,1),(2,2),(3,3),(4,4),(5,5),(6,6),(7,7),(17,8),(9,9),(10,10)] (by simp [hP,hhOk,back,Adj.cells,Cat.cells,Fn.cells,Mnd.cells,UA,U1,IA,I1,LA,L1,BA,B1,EA,E1,E2,eB,eI,eL])) ?_
   refine runQ hN fun K hK=>?_
   replace h:=Q7 h
   obtain ⟨a41,h⟩:=h
   simp [-Q0,-Q8,-Q3,-Q9,-Q4,eL,eI,Q1,Qt,Q5,Qd,Qc,Adj.cells,Cat.cells,Fn.cells,Mnd.cells,Qw a41]
   repeat with_reducible refine sdQ ?_
   refine hK _ ?_;clear hK K
   cases h
   exact rn (s':=(s32.1++[v39],s32.2+1)) hk32 (Wk.r1 [(0,0),(1,1),(2,2),(3,3),(4,4),(5,5),(6,6),(7,7),(8,8),(9,9),(10,10)] (by simp [hP,hhOk,back,Adj.cells,Cat.cells,Fn.cells,Mnd.cells,UA,U1,IA,I1,LA,L1,BA,B1,EA,E1,E2,eB,eI,eL]))
  have g33:¬ (s32.2<(v1.2.1.length:Int)):=gQ
  clear g
  replace h:=if_r g33 h
  refine Qp ?_
  refine tx ?_
  refine lx ?_
  refine bh ?_
  cases h
  exact jn (b:=s32.1) hk32 (Wk.r1 [(0,0),(1,1),(2,2),(3,3),(4,4),(5,5),(6,6),(7,7),(8,8),(9,9)] (by simp [hP,hhOk,back,Adj.cells,Cat.cells,Fn.cells,Mnd.cells,UA,U1,IA,I1,LA,L1,BA,B1,EA,E1,E2,eB,eI,eL]))
 intro b22 hb22
 have h:=h22
 rw [← hb22] at h
 clear h22
 try dsimp only at h
 refine Q6 ?_
 refine Q6 ?_
 refine runQ hN fun K hK=>?_
 simp [-Q0,-Q8,-Q3,-Q9,-Q4,eL,eI,Q1,Qt,Q5,Qd,Qc,Adj.cells,Cat.cells,Fn.cells,Mnd.cells]
 repeat with_reducible refine sdQ ?_
 refine hK _ ?_;clear hK K
 refine tn ?_
 refine Qa (st':=⟨[(1,.adr 0 0 0),(2,.adr 1 0 0),(4,.adr 2 0 0),(7,.adr 0 0 0),(8,.cmap .str (Msi v3)),(9,.own 7 0 b4.length),(10,.own 8 0 b22.length),(11,.own 9 0 0),(101,.lst true 1 (Is m_.f.ob)),(102,.val (.int .i64 (m_.f.ob.length:Int))),(103,.val (.int .i64 0))],[(0,.mix 14 [(Mnd.cells true m_)]),(1,.mix 26 [[.val (.int .i64 0),.val (.slice none 0 0),.val (.slice none 0 0),.val (.slice none 0 0),.val (.slice none 0 0),.val (.int .i64 0),.val (.slice none 0 0),.val (.slice none 0 0),.val (.slice none 0 0),.val (.slice none 0 0),.val (.slice none 0 0),.val (.slice none 0 0),.val (.int .i64 0),.val (.slice none 0 0),.val (.slice none 0 0),.val (.slice none 0 0),.val (.slice none 0 0),.val (.int .i64 0),.val (.slice none 0 0),.val (.slice none 0 0),.val (.slice none 0 0),.val (.slice none 0 0),.val (.slice none 0 0),.val (.slice none 0 0),.val (.slice none 0 0),.val (.slice none 0 0)]]),(2,.mix 5 [[.val (.int .i64 v1.1.n),.own 3 0 v1.1.fr.length,.own 4 0 v1.1.to.length,.own 5 0 v1.1.id.length,.own 6 0 v1.1.cs.length]]),(3,.row 1 (Is v1.1.fr)),(4,.row 1 (Is v1.1.to)),(5,.row 1 (Is v1.1.id)),(6,.row 1 (Ls v1.1.cs)),(7,.row 1 (Is b4)),(8,.row 1 (Is b22)),(9,.mix 1 [])],10⟩) (Wk.r1 [(0,0),(1,1),(2,2),(3,3),(4,4),(5,5),(6,6),(7,7),(8,8),(9,9)] (by simp [hP,hhOk,back,Adj.cells,Cat.cells,Fn.cells,Mnd.cells,UA,U1,IA,I1,LA,L1,BA,B1,EA,E1,E2,eB,eI,eL])) ?_
 replace h:=bind_some h
 obtain ⟨e42,h,h42⟩:=h
 refine Qm (fun b42:List Int=>⟨[(1,.adr 0 0 0),(2,.adr 1 0 0),(4,.adr 2 0 0),(7,.adr 0 0 0),(9,.own 7 0 b4.length),(10,.own 8 0 b22.length),(11,.own 9 0 b42.length)],[(0,.mix 14 [(Mnd.cells true m_)]),(1,.mix 26 [[.val (.int .i64 0),.val (.slice none 0 0),.val (.slice none 0 0),.val (.slice none 0 0),.val (.slice none 0 0),.val (.int .i64 0),.val (.slice none 0 0),.val (.slice none 0 0),.val (.slice none 0 0),.val (.slice none 0 0),.val (.slice none 0 0),.val (.slice none 0 0),.val (.int .i64 0),.val (.slice none 0 0),.val (.slice none 0 0),.val (.slice none 0 0),.val (.slice none 0 0),.val (.int .i64 0),.val (.slice none 0 0),.val (.slice none 0 0),.val (.slice none 0 0),.val (.slice none 0 0),.val (.slice none 0 0),.val (.slice none 0 0),.val (.slice none 0 0),.val (.slice none 0 0)]]),(2,.mix 5 [[.val (.int .i64 v1.1.n),.own 3 0 v1.1.fr.length,.own 4 0 v1.1.to.length,.own 5 0 v1.1.id.length,.own 6 0 v1.1.cs.length]]),(3,.row 1 (Is v1.1.fr)),(4,.row 1 (Is v1.1.to)),(5,.row 1 (Is v1.1.id)),(6,.row 1 (Ls v1.1.cs)),(7,.row 1 (Is b4)),(8,.row 1 (Is b22)),(9,.row 1 (Is b42))],10⟩) (fun b42=>b42=e42) ?_ ?_
 ·refine Qf ?_
  refine Qy h (fun s49:List Int × Int=>⟨[(1,.adr 0 0 0),(2,.adr 1 0 0),(4,.adr 2 0 0),(7,.adr 0 0 0),(8,.cmap .str (Msi v3)),(9,.own 7 0 b4.length),(10,.own 8 0 b22.length),(11,.own 9 0 s49.1.length),(101,.lst true 1 (Is m_.f.ob)),(102,.val (.int .i64 (m_.f.ob.length:Int))),(103,.val (.int .i64 s49.2))],[(0,.mix 14 [(Mnd.cells true m_)]),(1,.mix 26 [[.val (.int .i64 0),.val (.slice none 0 0),.val (.slice none 0 0),.val (.slice none 0 0),.val (.slice none 0 0),.val (.int .i64 0),.val (.slice none 0 0),.val (.slice none 0 0),.val (.slice none 0 0),.val (.slice none 0 0),.val (.slice none 0 0),.val (.slice none 0 0),.val (.int .i64 0),.val (.slice none 0 0),.val (.slice none 0 0),.val (.slice none 0 0),.val (.slice none 0 0),.val (.int .i64 0),.val (.slice none 0 0),.val (.slice none 0 0),.val (.slice none 0 0),.val (.slice none 0 0),.val (.slice none 0 0),.val (.slice none 0 0),.val (.slice none 0 0),.val (.slice none 0 0)]]),(2,.mix 5 [[.val (.int .i64 v1.1.n),.own 3 0 v1.1.fr.length,.own 4 0 v1.1.to.length,.own 5 0 v1.1.id.length,.own 6 0 v1.1.cs.length]]),(3,.row 1 (Is v1.1.fr)),(4,.row 1 (Is v1.1.to)),(5,.row 1 (Is v1.1.id)),(6,.row 1 (Ls v1.1.cs)),(7,.row 1 (Is b4)),(8,.row 1 (Is b22)),(9,.row 1 (Is s49.1))],10⟩) (Q3h ⟨[(1,.adr 0 0 0),(2,.adr 1 0 0),(4,.adr 2 0 0),(7,.adr 0 0 0),(8,.cmap .str (Msi v3)),(9,.own 7 0 b4.length),(10,.own 8 0 b22.length),(11,.own 9 0 0),(101,.lst true 1 (Is m_.f.ob)),(102,.val (.int .i64 (m_.f.ob.length:Int))),(103,.val (.int .i64 0))],[(0,.mix 14 [(Mnd.cells true m_)]),(1,.mix 26 [[.val (.int .i64 0),.val (.slice none 0 0),.val (.slice none 0 0),.val (.slice none 0 0),.val (.slice none 0 0),.val (.int .i64 0),.val (.slice none 0 0),.val (.slice none 0 0),.val (.slice none 0 0),.val (.slice none 0 0),.val (.slice none 0 0),.val (.slice none 0 0),.val (.int .i64 0),.val (.slice none 0 0),.val (.slice none 0 0),.val (.slice none 0 0),.val (.slice none 0 0),.val (.int .i64 0),.val (.slice none 0 0),.val (.slice none 0 0),.val (.slice none 0 0),.val (.slice none 0 0),.val (.slice none 0 0),.val (.slice none 0 0),.val (.slice none 0 0),.val (.slice none 0 0)]]),(2,.mix 5 [[.val (.int .i64 v1.1.n),.own 3 0 v1.1.fr.length,.own 4 0 v1.1.to.length,.own 5 0 v1.1.id.length,.own 6 0 v1.1.cs.length]]),(3,.row 1 (Is v1.1.fr)),(4,.row 1 (Is v1.1.to)),(5,.row 1 (Is v1.1.id)),(6,.row 1 (Ls v1.1.cs)),(7,.row 1 (Is b4)),(8,.row 1 (Is b22)),(9,.row 1 (Is []))],10⟩ (Wk.nils [] (by simp) (by simp) (by simp [nlA]) (by simp [entN,nlL,nlA,Adj.cells,Cat.cells,Fn.cells,Mnd.cells,UA,U1,IA,I1,LA,L1,BA,B1,EA,E1,E2,eB,eI,eL]) (by simp)) (Wk.r1 [(0,0),(1,1),(2,2),(3,3),(4,4),(5,5),(6,6),(7,7),(8,8),(9,9)] (by simp [hP,hhOk,back,Adj.cells,Cat.cells,Fn.cells,Mnd.cells,UA,U1,IA,I1,LA,L1,BA,B1,EA,E1,E2,eB,eI,eL]))) ?_
  clear h
  intro k49 s49 c49 h hk49
  refine Q6 ?_
  refine runQ hN fun K hK=>?_
  simp [-Q0,-Q8,-Q3,-Q9,-Q4,eL,eI,Q1,Qt,Q5,Qd,Qc,Adj.cells,Cat.cells,Fn.cells,Mnd.cells]
  repeat with_reducible refine sdQ ?_
  refine hK _ ?_;clear hK K
  refine tn ?_
  refine Qa (st':=⟨[(1,.adr 0 0 0),(2,.adr 1 0 0),(4,.adr 2 0 0),(7,.adr 0 0 0),(8,.cmap .str (Msi v3)),(9,.own 7 0 b4.length),(10,.own 8 0 b22.length),(11,.own 9 0 s49.1.length),(101,.lst true 1 (Is m_.f.ob)),(102,.val (.int .i64 (m_.f.ob.length:Int))),(103,.val (.int .i64 s49.2)),(104,.val (.bool (decide (s49.2<(m_.f.ob.length:Int)))))],[(0,.mix 14 [(Mnd.cells true m_)]),(1,.mix 26 [[.val (.int .i64 0),.val (.slice none 0 0),.val (.slice none 0 0),.val (.slice none 0 0),.val (.slice none 0 0),.val (.int .i64 0),.val (.slice none 0 0),.val (.slice none 0 0),.val (.slice none 0 0),.val (.slice none 0 0),.val (.slice none 0 0),.val (.slice none 0 0),.val (.int .i64 0),.val (.slice none 0 0),.val (.slice none 0 0),.val (.slice none 0 0),.val (.slice none 0 0),.val (.int .i64 0),.val (.slice none 0 0),.val (.slice none 0 0),.val (.slice none 0 0),.val (.slice none 0 0),.val (.slice none 0 0),.val (.slice none 0 0),.val (.slice none 0 0),.val (.slice none 0 0)]]),(2,.mix 5 [[.val (.int .i64 v1.1.n),.own 3 0 v1.1.fr.length,.own 4 0 v1.1.to.length,.own 5 0 v1.1.id.length,.own 6 0 v1.1.cs.length]]),(3,.row 1 (Is v1.1.fr)),(4,.row 1 (Is v1.1.to)),(5,.row 1 (Is v1.1.id)),(6,.row 1 (Ls v1.1.cs)),(7,.row 1 (Is b4)),(8,.row 1 (Is b22)),(9,.row 1 (Is s49.1))],10⟩) (Wk.r1 [(0,0),(1,1),(2,2),(3,3),(4,4),(5,5),(6,6),(7,7),(8,8),(9,9)] (by simp [hP,hhOk,back,Adj.cells,Cat.cells,Fn.cells,Mnd.cells,UA,U1,IA,I1,LA,L1,BA,B1,EA,E1,E2,eB,eI,eL])) ?_
  refine Q6 ?_
  refine Qg rfl (fun g=>?_) fun g=>?_
  ·have g50:s49.2<(m_.f.ob.length:Int):=gQ
   clear g
   replace h:=if_l g50 h
   refine Qh ?_
   refine tn ?_
   refine Q6 ?_
   refine Qf ?_
   refine Q6 ?_
   refine runQ hN fun K hK=>?_
   replace h:=Q7 h
   obtain ⟨a51,h⟩:=h
   simp [-Q0,-Q8,-Q3,-Q9,-Q4,eL,eI,Q1,Qt,Q5,Qd,Qc,Adj.cells,Cat.cells,Fn.cells,Mnd.cells,at_I a51]
   repeat with_reducible refine sdQ ?_
   refine hK _ ?_;clear hK K
   refine tn ?_
   refine Qa (st':=⟨[(1,.adr 0 0 0),(2,.adr 1 0 0),(4,.adr 2 0 0),(7,.adr 0 0 0),(8,.cmap .str (Msi v3)),(9,.own 7 0 b4.length),(10,.own 8 0 b22.length),(11,.own 9 0 s49.1.length),(16,.val (.int .i64 s49.2)),(17,.val (.int .i64 (ix m_.f.ob s49.2))),(101,.lst true 1 (Is m_.f.ob)),(102,.val (.int .i64 (m_.f.ob.length:Int))),(103,.val (.int .i64 s49.2))],[(0,.mix 14 [(Mnd.cells true m_)]),(1,.mix 26 [[.val (.int .i64 0),.val (.slice none 0 0),.val (.slice none 0 0),.val (.slice none 0 0),.val (.slice none 0 0),.val (.int .i64 0),.val (.slice none 0 0),.val (.slice none 0 0),.val (.slice none 0 0),.val (.slice none 0 0),.val (.slice none 0 0),.val (.slice none 0 0),.val (.int .i64 0),.val (.slice none 0 0),.val (.slice none 0 0),.val (.slice none 0 0),.val (.slice none 0 0),.val (.int .i64 0),.val (.slice none 0 0),.val (.slice none 0 0),.val (.slice none 0 0),.val (.slice none 0 0),.val (.slice none 0 0),.val (.slice none 0 0),.val (.slice none 0 0),.val (.slice none 0 0)]]),(2,.mix 5 [[.val (.int .i64 v1.1.n),.own 3 0 v1.1.fr.length,.own 4 0 v1.1.to.length,.own 5 0 v1.1.id.length,.own 6 0 v1.1.cs.length]]),(3,.row 1 (Is v1.1.fr)),(4,.row 1 (Is v1.1.to)),(5,.row 1 (Is v1.1.id)),(6,.row 1 (Ls v1.1.cs)),(7,.row 1 (Is b4)),(8,.row 1 (Is b22)),(9,.row 1 (Is s49.1))],10⟩) (Wk.r1 [(0,0),(1,1),(2,2),(3,3),(4,4),(5,5),(6,6),(7,7),(8,8),(9,9)] (by simp [hP,hhOk,back,Adj.cells,Cat.cells,Fn.cells,Mnd.cells,UA,U1,IA,I1,LA,L1,BA,B1,EA,E1,E2,eB,eI,eL])) ?_
   refine QV [] mo (by rw [hN];decide) fun K hK=>?_
   replace h:=Q7 h
   obtain ⟨a52,h⟩:=h
   simp [-Q0,-Q8,-Q3,-Q9,-Q4,eL,eI,Q1,Qt,Q5,Qd,Qc,Adj.cells,Cat.cells,Fn.cells,Mnd.cells,at_I a52]
   repeat with_reducible refine sdQ ?_
   replace h:=bind_some h
   obtain ⟨v53,hv53,h⟩:=h
   refine Q1h (fz:=[]) (Q5r _ v53 hv53) (.cons (.lits (es:=_) rfl (.cons rfl (.cons (.lits (es:=_) rfl (.cons rfl (.cons .val .nil) (.cons rfl (.cons .val .nil) (.cons rfl (.cons .val .nil) .nil))) rfl) .nil) .nil) rfl) .nil) ?_
   replace h:=Q7 h
   obtain ⟨a54,h⟩:=h
   try simp only [List.length_append,List.length_cons,List.length_nil] at a54
   simp [-Q0,-Q8,-Q3,-Q9,-Q4,unk,unA,unE,unT,unC,flat,eL,eI,Q1,Qt,Q5,Qd,Qc,Adj.cells,Cat.cells,Fn.cells,Mnd.cells,at_I a52,a54]
   repeat with_reducible refine sdQ ?_
   refine hK _ ?_;clear hK K
   refine bn ?_
   refine tn ?_
   refine Qa (st':=⟨[(1,.adr 0 0 0),(2,.adr 1 0 0),(4,.adr 2 0 0),(7,.adr 0 0 0),(8,.cmap .str (Msi v3)),(9,.own 7 0 b4.length),(10,.own 8 0 b22.length),(11,.own 9 0 ((s49.1++[(Q1E v53 v3).getD 0]).length)),(101,.lst true 1 (Is m_.f.ob)),(102,.val (.int .i64 (m_.f.ob.length:Int))),(103,.val (.int .i64 s49.2))],[(0,.mix 14 [(Mnd.cells true m_)]),(1,.mix 26 [[.val (.int .i64 0),.val (.slice none 0 0),.val (.slice none 0 0),.val (.slice none 0 0),.val (.slice none 0 0),.val (.int .i64 0),.val (.slice none 0 0),.val (.slice none 0 0),.val (.slice none 0 0),.val (.slice none 0 0),.val (.slice none 0 0),.val (.slice none 0 0),.val (.int .i64 0),.val (.slice none 0 0),.val (.slice none 0 0),.val (.slice none 0 0),.val (.slice none 0 0),.val (.int .i64 0),.val (.slice none 0 0),.val (.slice none 0 0),.val (.slice none 0 0),.val (.slice none 0 0),.val (.slice none 0 0),.val (.slice none 0 0),.val (.slice none 0 0),.val (.slice none 0 0)]]),(2,.mix 5 [[.val (.int .i64 v1.1.n),.own 3 0 v1.1.fr.length,.own 4 0 v1.1.to.length,.own 5 0 v1.1.id.length,.own 6 0 v1.1.cs.length]]),(3,.row 1 (Is v1.1.fr)),(4,.row 1 (Is v1.1.to)),(5,.row 1 (Is v1.1.id)),(6,.row 1 (Ls v1.1.cs)),(7,.row 1 (Is b4)),(8,.row 1 (Is b22)),(9,.row 1 (Is (s49.1++[(Q1E v53 v3).getD 0])))],10⟩) (Wk.r1 [(0,0),(1,1),(2,2),(3,3),(4,4),(5,5),(6,6),(7,7),(8,8),(14,9)] (by simp [hP,hhOk,back,Adj.cells,Cat.cells,Fn.cells,Mnd.cells,UA,U1,IA,I1,LA,L1,BA,B1,EA,E1,E2,eB,eI,eL])) ?_
   refine runQ hN fun K hK=>?_
   replace h:=Q7 h
   obtain ⟨a55,h⟩:=h
   simp [-Q0,-Q8,-Q3,-Q9,-Q4,eL,eI,Q1,Qt,Q5,Qd,Qc,Adj.cells,Cat.cells,Fn.cells,Mnd.cells,Qw a55]
   repeat with_reducible refine sdQ ?_
   refine hK _ ?_;clear hK K
   cases h
   exact rn (s':=(s49.1++[(Q1E v53 v3).getD 0],s49.2+1)) hk49 (Wk.r1 [(0,0),(1,1),(2,2),(3,3),(4,4),(5,5),(6,6),(7,7),(8,8),(9,9)] (by simp [hP,hhOk,back,Adj.cells,Cat.cells,Fn.cells,Mnd.cells,UA,U1,IA,I1,LA,L1,BA,B1,EA,E1,E2,eB,eI,eL]))
  have g50:¬ (s49.2<(m_.f.ob.length:Int)):=gQ
  clear g
  replace h:=if_r g50 h
  refine Qp ?_
  refine tx ?_
  refine lx ?_
  refine bh ?_
  cases h
  exact jn (b:=s49.1) hk49 (Wk.r1 [(0,0),(1,1),(2,2),(3,3),(4,4),(5,5),(6,6),(7,7),(8,8),(9,9)] (by simp [hP,hhOk,back,Adj.cells,Cat.cells,Fn.cells,Mnd.cells,UA,U1,IA,I1,LA,L1,BA,B1,EA,E1,E2,eB,eI,eL]))
 intro b42 hb42
 have h:=h42
 rw [← hb42] at h
 clear h42
 try dsimp only at h
 refine Q6 ?_
 refine runQ hN fun K hK=>?_
 simp [-Q0,-Q8,-Q3,-Q9,-Q4,eL,eI,Q1,Qt,Q5,Qd,Qc,Adj.cells,Cat.cells,Fn.cells,Mnd.cells]
 repeat with_reducible refine sdQ ?_
 replace h:=bind_some h
 obtain ⟨v56,hv56,h⟩:=h
 refine Q2 (Q40 _ v56 hv56) (.cons .val .nil) ?_
 simp [-Q0,-Q8,-Q3,-Q9,-Q4,unk,unA,unE,unT,unC,flat,eL,eI,Q1,Qt,Q5,Qd,Qc,Adj.cells,Cat.cells,Fn.cells,Mnd.cells]
 repeat with_reducible refine sdQ ?_
 replace h:=bind_some h
 obtain ⟨v57,hv57,h⟩:=h
 refine Q2 (Q2F _ _ _ _ v57 hv57) (.cons (.field rfl (by simp [Adj.cells,Cat.cells,Mnd.cells]) (.cons .val (.cons .lst (.cons .lst (.cons .lst (.cons .lst .nil)))))) (.cons (.field rfl (by simp [Adj.cells,Cat.cells,Mnd.cells]) (.cons .val (.cons (.whole (by simp) (by simp) (by simp)) (.cons (.whole (by simp) (by simp) (by simp)) (.cons (.whole (by simp) (by simp) (by simp)) (.cons (.whole (by simp) (by simp) (by simp)) .nil)))))) (.cons (.whole (by simp) (by simp) (by simp)) (.cons (.whole (by simp) (by simp) (by simp)) .nil)))) ?_
 simp [-Q0,-Q8,-Q3,-Q9,-Q4,unk,unA,unE,unT,unC,flat,eL,eI,Q1,Qt,Q5,Qd,Qc,Adj.cells,Cat.cells,Fn.cells,Mnd.cells]
 repeat with_reducible refine sdQ ?_
 refine hK _ ?_;clear hK K
 refine tn ?_
 refine Qa (st':=⟨[(1,.adr 0 0 0),(2,.adr 1 0 0),(4,.adr 2 0 0),(7,.adr 0 0 0),(10,.own 7 0 b22.length),(11,.own 8 0 b42.length),(18,.adr 9 0 0)],[(0,.mix 14 [(Mnd.cells true m_)]),(1,.mix 26 [[.val (.int .i64 0),.val (.slice none 0 0),.val (.slice none 0 0),.val (.slice none 0 0),.val (.slice none 0 0),.val (.int .i64 0),.val (.slice none 0 0),.val (.slice none 0 0),.val (.slice none 0 0),.val (.slice none 0 0),.val (.slice none 0 0),.val (.slice none 0 0),.val (.int .i64 0),.val (.slice none 0 0),.val (.slice none 0 0),.val (.slice none 0 0),.val (.slice none 0 0),.val (.int .i64 0),.val (.slice none 0 0),.val (.slice none 0 0),.val (.slice none 0 0),.val (.slice none 0 0),.val (.slice none 0 0),.val (.slice none 0 0),.val (.slice none 0 0),.val (.slice none 0 0)]]),(2,.mix 5 [[.val (.int .i64 v1.1.n),.own 3 0 v1.1.fr.length,.own 4 0 v1.1.to.length,.own 5 0 v1.1.id.length,.own 6 0 v1.1.cs.length]]),(3,.row 1 (Is v1.1.fr)),(4,.row 1 (Is v1.1.to)),(5,.row 1 (Is v1.1.id)),(6,.row 1 (Ls v1.1.cs)),(7,.row 1 (Is b22)),(8,.row 1 (Is b42)),(9,.mix 12 [[.val (.int .i64 v57.s.n),.own 10 0 v57.s.fr.length,.own 11 0 v57.s.to.length,.own 12 0 v57.s.id.length,.own 13 0 v57.s.cs.length,.val (.int .i64 v57.t.n),.own 14 0 v57.t.fr.length,.own 15 0 v57.t.to.length,.own 16 0 v57.t.id.length,.own 17 0 v57.t.cs.length,.own 18 0 v57.ob.length,.own 19 0 v57.ar.length]]),(10,.row 1 (Is v57.s.fr)),(11,.row 1 (Is v57.s.to)),(12,.row 1 (Is v57.s.id)),(13,.row 1 (Ls v57.s.cs)),(14,.row 1 (Is v57.t.fr)),(15,.row 1 (Is v57.t.to)),(16,.row 1 (Is v57.t.id)),(17,.row 1 (Ls v57.t.cs)),(18,.row 1 (Is v57.ob)),(19,.row 1 (Is v57.ar))],20⟩) (Wk.r1 [(0,0),(1,1),(2,2),(3,3),(4,4),(5,5),(6,6),(8,7),(9,8),(23,9),(12,10),(13,11),(14,12),(15,13),(17,14),(18,15),(19,16),(20,17),(21,18),(22,19)] (by simp [hP,hhOk,back,Adj.cells,Cat.cells,Fn.cells,Mnd.cells,UA,U1,IA,I1,LA,L1,BA,B1,EA,E1,E2,eB,eI,eL])) ?_
 refine Q6 ?_
 refine runQ hN fun K hK=>?_
 simp [-Q0,-Q8,-Q3,-Q9,-Q4,eL,eI,Q1,Qt,Q5,Qd,Qc,Adj.cells,Cat.cells,Fn.cells,Mnd.cells]
 repeat with_reducible refine sdQ ?_
 replace h:=bind_some h
 obtain ⟨v58,hv58,h⟩:=h
 refine Q2 (Q2F _ _ _ _ v58 hv58) (.cons (.field rfl (by simp [Adj.cells,Cat.cells,Fn.cells,Mnd.cells]) (.cons .val (.cons (.whole (by simp) (by simp) (by simp)) (.cons (.whole (by simp) (by simp) (by simp)) (.cons (.whole (by simp) (by simp) (by simp)) (.cons (.whole (by simp) (by simp) (by simp)) .nil)))))) (.cons (.field rfl (by simp [Adj.cells,Cat.cells,Fn.cells,Mnd.cells]) (.cons .val (.cons .lst (.cons .lst (.cons .lst (.cons .lst .nil)))))) (.cons .lst (.cons (.whole (by simp) (by simp) (by simp)) .nil)))) ?_
 simp [-Q0,-Q8,-Q3,-Q9,-Q4,unk,unA,unE,unT,unC,flat,eL,eI,Q1,Qt,Q5,Qd,Qc,Adj.cells,Cat.cells,Fn.cells,Mnd.cells]
 repeat with_reducible refine sdQ ?_
 refine hK _ ?_;clear hK K
 refine tn ?_
 refine Qa (st':=⟨[(1,.adr 0 0 0),(2,.adr 1 0 0),(11,.own 2 0 b42.length),(18,.adr 3 0 0),(19,.adr 14 0 0)],[(0,.mix 14 [(Mnd.cells true m_)]),(1,.mix 26 [[.val (.int .i64 0),.val (.slice none 0 0),.val (.slice none 0 0),.val (.slice none 0 0),.val (.slice none 0 0),.val (.int .i64 0),.val (.slice none 0 0),.val (.slice none 0 0),.val (.slice none 0 0),.val (.slice none 0 0),.val (.slice none 0 0),.val (.slice none 0 0),.val (.int .i64 0),.val (.slice none 0 0),.val (.slice none 0 0),.val (.slice none 0 0),.val (.slice none 0 0),.val (.int .i64 0),.val (.slice none 0 0),.val (.slice none 0 0),.val (.slice none 0 0),.val (.slice none 0 0),.val (.slice none 0 0),.val (.slice none 0 0),.val (.slice none 0 0),.val (.slice none 0 0)]]),(2,.row 1 (Is b42)),(3,.mix 12 [[.val (.int .i64 v57.s.n),.own 4 0 v57.s.fr.length,.own 5 0 v57.s.to.length,.own 6 0 v57.s.id.length,.own 7 0 v57.s.cs.length,.val (.int .i64 v57.t.n),.own 8 0 v57.t.fr.length,.own 9 0 v57.t.to.length,.own 10 0 v57.t.id.length,.own 11 0 v57.t.cs.length,.own 12 0 v57.ob.length,.own 13 0 v57.ar.length]]),(4,.row 1 (Is v57.s.fr)),(5,.row 1 (Is v57.s.to)),(6,.row 1 (Is v57.s.id)),(7,.row 1 (Ls v57.s.cs)),(8,.row 1 (Is v57.t.fr)),(9,.row 1 (Is v57.t.to)),(10,.row 1 (Is v57.t.id)),(11,.row 1 (Ls v57.t.cs)),(12,.row 1 (Is v57.ob)),(13,.row 1 (Is v57.ar)),(14,.mix 12 [[.val (.int .i64 v58.s.n),.own 15 0 v58.s.fr.length,.own 16 0 v58.s.to.length,.own 17 0 v58.s.id.length,.own 18 0 v58.s.cs.length,.val (.int .i64 v58.t.n),.own 19 0 v58.t.fr.length,.own 20 0 v58.t.to.length,.own 21 0 v58.t.id.length,.own 22 0 v58.t.cs.length,.own 23 0 v58.ob.length,.own 24 0 v58.ar.length]]),(15,.row 1 (Is v58.s.fr)),(16,.row 1 (Is v58.s.to)),(17,.row 1 (Is v58.s.id)),(18,.row 1 (Ls v58.s.cs)),(19,.row 1 (Is v58.t.fr)),(20,.row 1 (Is v58.t.to)),(21,.row 1 (Is v58.t.id)),(22,.row 1 (Ls v58.t.cs)),(23,.row 1 (Is v58.ob)),(24,.row 1 (Is v58.ar))],25⟩) (Wk.r1 [(0,0),(1,1),(8,2),(9,3),(10,4),(11,5),(12,6),(13,7),(14,8),(15,9),(16,10),(17,11),(18,12),(19,13),(32,14),(21,15),(22,16),(23,17),(24,18),(26,19),(27,20),(28,21),(29,22),(30,23),(31,24)] (by simp [hP,hhOk,back,Adj.cells,Cat.cells,Fn.cells,Mnd.cells,UA,U1,IA,I1,LA,L1,BA,B1,EA,E1,E2,eB,eI,eL])) ?_
 refine Q6 ?_
 refine runQ hN fun K hK=>?_
 simp [-Q0,-Q8,-Q3,-Q9,-Q4,eL,eI,Q1,Qt,Q5,Qd,Qc,Adj.cells,Cat.cells,Fn.cells,Mnd.cells]
 repeat with_reducible refine sdQ ?_
 replace h:=bind_some h
 obtain ⟨v59,hv59,h⟩:=h
 refine Q2 (Q5C _ _ _ _ v59 hv59) (.cons (.field rfl (by simp [Adj.cells,Cat.cells,Fn.cells,Mnd.cells]) (.cons .val (.cons (.whole (by simp) (by simp) (by simp)) (.cons (.whole (by simp) (by simp) (by simp)) (.cons (.whole (by simp) (by simp) (by simp)) (.cons (.whole (by simp) (by simp) (by simp)) (.cons .val (.cons (.whole (by simp) (by simp) (by simp)) (.cons (.whole (by simp) (by simp) (by simp)) (.cons (.whole (by simp) (by simp) (by simp)) (.cons (.whole (by simp) (by simp) (by simp)) (.cons (.whole (by simp) (by simp) (by simp)) (.cons (.whole (by simp) (by simp) (by simp)) .nil))))))))))))) (.cons (.field rfl (by simp [Adj.cells,Cat.cells,Fn.cells,Mnd.cells]) (.cons .val (.cons (.whole (by simp) (by simp) (by simp)) (.cons (.whole (by simp) (by simp) (by simp)) (.cons (.whole (by simp) (by simp) (by simp)) (.cons (.whole (by simp) (by simp) (by simp)) (.cons .val (.cons (.whole (by simp) (by simp) (by simp)) (.cons (.whole (by simp) (by simp) (by simp)) (.cons (.whole (by simp) (by simp) (by simp)) (.cons (.whole (by simp) (by simp) (by simp)) (.cons (.whole (by simp) (by simp) (by simp)) (.cons (.whole (by simp) (by simp) (by simp)) .nil))))))))))))) (.cons .lst (.cons (.whole (by simp) (by simp) (by simp)) .nil)))) ?_
 simp [-Q0,-Q8,-Q3,-Q9,-Q4,unk,unA,unE,unT,unC,flat,eL,eI,Q1,Qt,Q5,Qd,Qc,Adj.cells,Cat.cells,Fn.cells,Mnd.cells]
 repeat with_reducible refine sdQ ?_
 refine hK _ ?_;clear hK K
 refine tn ?_
 refine Qa (st':=⟨[(2,.adr 0 0 0),(3,.val (.int .i64 0))],[(0,.mix 26 [[.val (.int .i64 v59.l.s.n),.own 1 0 v59.l.s.fr.length,.own 2 0 v59.l.s.to.length,.own 3 0 v59.l.s.id.length,.own 4 0 v59.l.s.cs.length,.val (.int .i64 v59.l.t.n),.own 5 0 v59.l.t.fr.length,.own 6 0 v59.l.t.to.length,.own 7 0 v59.l.t.id.length,.own 8 0 v59.l.t.cs.length,.own 9 0 v59.l.ob.length,.own 10 0 v59.l.ar.length,.val (.int .i64 v59.r.s.n),.own 11 0 v59.r.s.fr.length,.own 12 0 v59.r.s.to.length,.own 13 0 v59.r.s.id.length,.own 14 0 v59.r.s.cs.length,.val (.int .i64 v59.r.t.n),.own 15 0 v59.r.t.fr.length,.own 16 0 v59.r.t.to.length,.own 17 0 v59.r.t.id.length,.own 18 0 v59.r.t.cs.length,.own 19 0 v59.r.ob.length,.own 20 0 v59.r.ar.length,.own 21 0 v59.u.length,.own 22 0 v59.k.length]]),(1,.row 1 (Is v59.l.s.fr)),(2,.row 1 (Is v59.l.s.to)),(3,.row 1 (Is v59.l.s.id)),(4,.row 1 (Ls v59.l.s.cs)),(5,.row 1 (Is v59.l.t.fr)),(6,.row 1 (Is v59.l.t.to)),(7,.row 1 (Is v59.l.t.id)),(8,.row 1 (Ls v59.l.t.cs)),(9,.row 1 (Is v59.l.ob)),(10,.row 1 (Is v59.l.ar)),(11,.row 1 (Is v59.r.s.fr)),(12,.row 1 (Is v59.r.s.to)),(13,.row 1 (Is v59.r.s.id)),(14,.row 1 (Ls v59.r.s.cs)),(15,.row 1 (Is v59.r.t.fr)),(16,.row 1 (Is v59.r.t.to)),(17,.row 1 (Is v59.r.t.id)),(18,.row 1 (Ls v59.r.t.cs)),(19,.row 1 (Is v59.r.ob)),(20,.row 1 (Is v59.r.ar)),(21,.row 1 (Is v59.u)),(22,.row 1 (Is v59.k))],23⟩) (Wk.r1 [(1,0),(26,1),(27,2),(28,3),(29,4),(31,5),(32,6),(33,7),(34,8),(35,9),(36,10),(38,11),(39,12),(40,13),(41,14),(43,15),(44,16),(45,17),(46,18),(47,19),(48,20),(49,21),(50,22)] (by simp [hP,hhOk,back,Adj.cells,Cat.cells,Fn.cells,Mnd.cells,UA,U1,IA,I1,LA,L1,BA,B1,EA,E1,E2,eB,eI,eL])) ?_
 refine Qk ?_
 have hr:=Option.some.inj h
 rw [← hr]
 refine ⟨_,(.cell tf_35 rfl rfl rfl (by simp) (by simp) (.tmp .nil)),?_⟩
 refine ⟨(.agg rfl (.one rfl rfl .nil)),[.val (.int .i64 v59.l.s.n),.lst true 1 (Is v59.l.s.fr),.lst true 1 (Is v59.l.s.to),.lst true 1 (Is v59.l.s.id),.lst true 1 (Ls v59.l.s.cs),.val (.int .i64 v59.l.t.n),.lst true 1 (Is v59.l.t.fr),.lst true 1 (Is v59.l.t.to),.lst true 1 (Is v59.l.t.id),.lst true 1 (Ls v59.l.t.cs),.lst true 1 (Is v59.l.ob),.lst true 1 (Is v59.l.ar),.val (.int .i64 v59.r.s.n),.lst true 1 (Is v59.r.s.fr),.lst true 1 (Is v59.r.s.to),.lst true 1 (Is v59.r.s.id),.lst true 1 (Ls v59.r.s.cs),.val (.int .i64 v59.r.t.n),.lst true 1 (Is v59.r.t.fr),.lst true 1 (Is v59.r.t.to),.lst true 1 (Is v59.r.t.id),.lst true 1 (Ls v59.r.t.cs),.lst true 1 (Is v59.r.ob),.lst true 1 (Is v59.r.ar),.lst true 1 (Is v59.u),.lst true 1 (Is v59.k),.val (.int .i64 0)],[1,2,3,4,5,6,7,8,9,10,11,12,13,14,15,16,17,18,19,20,21,22],by simp [Adj.cells,Cat.cells,Fn.cells,Mnd.cells,UA,U1,IA,I1,LA,L1,BA,B1,EA,E1,E2,eB,eI,eL],by simp,(UpL.refl _)⟩
end Go.Vc.T
