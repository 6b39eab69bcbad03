/- A part of the proof: a verified generator of conditions, and what each function of the program does. -/
import Derived.Test.YtfinipknacaojaaGreatP10
set_option maxRecDepth 100000
set_option maxHeartbeats 4000000
set_option linter.unusedSimpArgs false
set_option linter.unusedVariables false

namespace Go.Vc.T
open Go Go.Vc Go.Proofs
noncomputable def Q17 (m_:Mnd):Option (Adj × Int) :=
 (Q2B m_).bind fun v1 =>
 if ¬ (v1.2.2=0) then
  some ((⟨(⟨(⟨0,[],[],[],[]⟩:Cat),(⟨0,[],[],[],[]⟩:Cat),[],[]⟩:Fn),(⟨(⟨0,[],[],[],[]⟩:Cat),(⟨0,[],[],[],[]⟩:Cat),[],[]⟩:Fn),[],[]⟩:Adj),v1.2.2)
 else
  (QH (σ:=List Int × Int) (ε:=List Int) (fun s12 =>
   if s12.2<(m_.f.s.fr.length:Int) then
    ass (0≤s12.2∧s12.2<(m_.f.s.fr.length:Int)) <|
    ass (0≤s12.2∧s12.2<(m_.f.s.to.length:Int)) <|
    ass (0≤ix m_.f.s.to s12.2∧ix m_.f.s.to s12.2<(m_.u.length:Int)) <|
    (QG m_.f.s s12.2 (ix m_.u (ix m_.f.s.to s12.2))).bind fun v17 =>
    (Q1A v1.2.1 [ix m_.f.s.fr s12.2,ix m_.f.s.to s12.2,v17]).bind fun v18 =>
    ass ((s12.1++[v18]).length≤1073741824) <|
    ass (B64 (s12.2+1)) <|
    some (Ctl.next (s12.1++[v18],s12.2+1))
   else
    some (Ctl.ret s12.1)) fuel ([],0)).bind fun b3 =>
  (QH (σ:=List Int × Int) (ε:=List Int) (fun s32 =>
   if s32.2<(v1.2.1.length:Int) then
    ass (0≤s32.2∧s32.2<(v1.2.1.length:Int)) <|
    ass ((0:Int)≤2∧2<((rx v1.2.1 s32.2).length:Int)) <|
    ass (0≤ix (rx v1.2.1 s32.2) 2∧ix (rx v1.2.1 s32.2) 2<(m_.f.ar.length:Int)) <|
    ass (0≤s32.2∧s32.2<(v1.2.1.length:Int)) <|
    ass ((0:Int)≤1∧1<((rx v1.2.1 s32.2).length:Int)) <|
    ass (0≤ix (rx v1.2.1 s32.2) 1∧ix (rx v1.2.1 s32.2) 1<(m_.j.length:Int)) <|
    (QG m_.f.s (ix m_.f.ar (ix (rx v1.2.1 s32.2) 2)) (ix m_.j (ix (rx v1.2.1 s32.2) 1))).bind fun v40 =>
    ass ((s32.1++[v40]).length≤1073741824) <|
    ass (B64 (s32.2+1)) <|
    some (Ctl.next (s32.1++[v40],s32.2+1))
   else
    some (Ctl.ret s32.1)) fuel ([],0)).bind fun b21 =>
  (QH (σ:=List Int × Int) (ε:=List Int) (fun s50 =>
   if s50.2<m_.f.s.n then
    ass (0≤s50.2∧s50.2<(m_.f.ob.length:Int)) <|
    ass (0≤ix m_.f.ob s50.2∧ix m_.f.ob s50.2<(m_.f.s.id.length:Int)) <|
    (Q1A v1.2.1 [ix m_.f.ob s50.2,s50.2,ix m_.f.s.id (ix m_.f.ob s50.2)]).bind fun v54 =>
    ass ((s50.1++[v54]).length≤1073741824) <|
    ass (B64 (s50.2+1)) <|
    some (Ctl.next (s50.1++[v54],s50.2+1))
   else
    some (Ctl.ret s50.1)) fuel ([],0)).bind fun b43 =>
  (Q26 m_.f.s).bind fun v57 =>
  (Q1z m_.f.s v1.1 v57.ob b3).bind fun v58 =>
  (Q1z v1.1 m_.f.s m_.f.ob b21).bind fun v59 =>
  (Q24 m_.u).bind fun v60 =>
  some ((⟨v58,v59,v60,b43⟩:Adj),0)
theorem Q3B (m_:Mnd) (r:Adj × Int) (h:Q17 m_=some r):Contract Tryz.prog 10 [.agg (m_.cells true)] (.tup [.agg (r.1.cells true),.val (.int .i64 r.2)]):=by
 refine Qi (rvs:=[.cell 2 35,.tmp 3]) (rs:=[.agg (r.1.cells true),.val (.int .i64 r.2)]) Tryz.func10 rfl rfl rfl rfl (by simp [Tryz.f10]) fun F hN hP=>?_
 unfold Q17 at h
 refine Q6 ?_
 refine runQ hN fun K hK=>?_
 simp [-Q0,-Q8,-Q3,-Q9,-Q4,eL,eI,Q1,Qt,Q5,Qd,Qc,Adj.cells,Cat.cells,Fn.cells,Mnd.cells]
 repeat with_reducible refine sdQ ?_
 refine hK _ ?_;clear hK K
 refine tn ?_
 refine Qa (st':=⟨[(1,.adr 0 0 0),(2,.adr 1 0 0)],[(0,.mix 14 [(Mnd.cells true m_)]),(1,.mix 26 [[.val (.int .i64 0),.val (.slice none 0 0),.val (.slice none 0 0),.val (.slice none 0 0),.val (.slice none 0 0),.val (.int .i64 0),.val (.slice none 0 0),.val (.slice none 0 0),.val (.slice none 0 0),.val (.slice none 0 0),.val (.slice none 0 0),.val (.slice none 0 0),.val (.int .i64 0),.val (.slice none 0 0),.val (.slice none 0 0),.val (.slice none 0 0),.val (.slice none 0 0),.val (.int .i64 0),.val (.slice none 0 0),.val (.slice none 0 0),.val (.slice none 0 0),.val (.slice none 0 0),.val (.slice none 0 0),.val (.slice none 0 0),.val (.slice none 0 0),.val (.slice none 0 0)]])],2⟩) (Wk.r1 [(0,0),(1,1)] (by simp [hP,hhOk,back,Adj.cells,Cat.cells,Fn.cells,Mnd.cells,UA,U1,IA,I1,LA,L1,BA,B1,EA,E1,E2,eB,eI,eL])) ?_
 refine Q6 ?_
 refine runQ hN fun K hK=>?_
 simp [-Q0,-Q8,-Q3,-Q9,-Q4,eL,eI,Q1,Qt,Q5,Qd,Qc,Adj.cells,Cat.cells,Fn.cells,Mnd.cells]
 repeat with_reducible refine sdQ ?_
 replace h:=bind_some h
 obtain ⟨v1,hv1,h⟩:=h
 refine Q2 (Q7X _ v1 hv1) (.cons (.aggL (.cons .val (.cons .lst (.cons .lst (.cons .lst (.cons .lst (.cons .val (.cons .lst (.cons .lst (.cons .lst (.cons .lst (.cons .lst (.cons .lst (.cons .lst (.cons .lst .nil))))))))))))))) .nil) ?_
 simp [-Q0,-Q8,-Q3,-Q9,-Q4,unk,unA,unE,unT,unC,flat,eL,eI,Q1,Qt,Q5,Qd,Qc,Adj.cells,Cat.cells,Fn.cells,Mnd.cells]
 repeat with_reducible refine sdQ ?_
 refine hK _ ?_;clear hK K
 refine tn ?_
 refine Qa (st':=⟨[(1,.adr 0 0 0),(2,.adr 1 0 0),(4,.adr 2 0 0),(5,.own 7 0 v1.2.1.length),(6,.val (.int .i64 v1.2.2))],[(0,.mix 14 [(Mnd.cells true m_)]),(1,.mix 26 [[.val (.int .i64 0),.val (.slice none 0 0),.val (.slice none 0 0),.val (.slice none 0 0),.val (.slice none 0 0),.val (.int .i64 0),.val (.slice none 0 0),.val (.slice none 0 0),.val (.slice none 0 0),.val (.slice none 0 0),.val (.slice none 0 0),.val (.slice none 0 0),.val (.int .i64 0),.val (.slice none 0 0),.val (.slice none 0 0),.val (.slice none 0 0),.val (.slice none 0 0),.val (.int .i64 0),.val (.slice none 0 0),.val (.slice none 0 0),.val (.slice none 0 0),.val (.slice none 0 0),.val (.slice none 0 0),.val (.slice none 0 0),.val (.slice none 0 0),.val (.slice none 0 0)]]),(2,.mix 5 [[.val (.int .i64 v1.1.n),.own 3 0 v1.1.fr.length,.own 4 0 v1.1.to.length,.own 5 0 v1.1.id.length,.own 6 0 v1.1.cs.length]]),(3,.row 1 (Is v1.1.fr)),(4,.row 1 (Is v1.1.to)),(5,.row 1 (Is v1.1.id)),(6,.row 1 (Ls v1.1.cs)),(7,.row 1 (Ls v1.2.1))],8⟩) (Wk.r1 [(0,0),(1,1),(9,2),(3,3),(4,4),(5,5),(6,6),(7,7)] (by simp [hP,hhOk,back,Adj.cells,Cat.cells,Fn.cells,Mnd.cells,UA,U1,IA,I1,LA,L1,BA,B1,EA,E1,E2,eB,eI,eL])) ?_
 refine Q6 ?_
 refine Q6 ?_
 refine runQ hN fun K hK=>?_
 simp [-Q0,-Q8,-Q3,-Q9,-Q4,eL,eI,Q1,Qt,Q5,Qd,Qc,Adj.cells,Cat.cells,Fn.cells,Mnd.cells]
 repeat with_reducible refine sdQ ?_
 refine hK _ ?_;clear hK K
 refine tn ?_
 refine Qa (st':=⟨[(1,.adr 0 0 0),(2,.adr 1 0 0),(4,.adr 2 0 0),(5,.own 7 0 v1.2.1.length),(6,.val (.int .i64 v1.2.2)),(24,.val (.bool (v1.2.2 != 0)))],[(0,.mix 14 [(Mnd.cells true m_)]),(1,.mix 26 [[.val (.int .i64 0),.val (.slice none 0 0),.val (.slice none 0 0),.val (.slice none 0 0),.val (.slice none 0 0),.val (.int .i64 0),.val (.slice none 0 0),.val (.slice none 0 0),.val (.slice none 0 0),.val (.slice none 0 0),.val (.slice none 0 0),.val (.slice none 0 0),.val (.int .i64 0),.val (.slice none 0 0),.val (.slice none 0 0),.val (.slice none 0 0),.val (.slice none 0 0),.val (.int .i64 0),.val (.slice none 0 0),.val (.slice none 0 0),.val (.slice none 0 0),.val (.slice none 0 0),.val (.slice none 0 0),.val (.slice none 0 0),.val (.slice none 0 0),.val (.slice none 0 0)]]),(2,.mix 5 [[.val (.int .i64 v1.1.n),.own 3 0 v1.1.fr.length,.own 4 0 v1.1.to.length,.own 5 0 v1.1.id.length,.own 6 0 v1.1.cs.length]]),(3,.row 1 (Is v1.1.fr)),(4,.row 1 (Is v1.1.to)),(5,.row 1 (Is v1.1.id)),(6,.row 1 (Ls v1.1.cs)),(7,.row 1 (Ls v1.2.1))],8⟩) (Wk.r1 [(0,0),(1,1),(2,2),(3,3),(4,4),(5,5),(6,6),(7,7)] (by simp [hP,hhOk,back,Adj.cells,Cat.cells,Fn.cells,Mnd.cells,UA,U1,IA,I1,LA,L1,BA,B1,EA,E1,E2,eB,eI,eL])) ?_
 refine Qg rfl (fun g=>?_) fun g=>?_
 ·have g2:¬ (v1.2.2=0):=gQ
  clear g
  replace h:=if_l g2 h
  refine Q6 ?_
  refine runQ hN fun K hK=>?_
  simp [-Q0,-Q8,-Q3,-Q9,-Q4,eL,eI,Q1,Qt,Q5,Qd,Qc,Adj.cells,Cat.cells,Fn.cells,Mnd.cells]
  repeat with_reducible refine sdQ ?_
  refine hK _ ?_;clear hK K
  refine tn ?_
  refine Qa (st':=⟨[(2,.adr 0 0 0),(3,.val (.int .i64 v1.2.2))],[(0,.mix 26 [[.val (.int .i64 0),.val (.slice none 0 0),.val (.slice none 0 0),.val (.slice none 0 0),.val (.slice none 0 0),.val (.int .i64 0),.val (.slice none 0 0),.val (.slice none 0 0),.val (.slice none 0 0),.val (.slice none 0 0),.val (.slice none 0 0),.val (.slice none 0 0),.val (.int .i64 0),.val (.slice none 0 0),.val (.slice none 0 0),.val (.slice none 0 0),.val (.slice none 0 0),.val (.int .i64 0),.val (.slice none 0 0),.val (.slice none 0 0),.val (.slice none 0 0),.val (.slice none 0 0),.val (.slice none 0 0),.val (.slice none 0 0),.val (.slice none 0 0),.val (.slice none 0 0)]])],1⟩) (Wk.r1 [(1,0)] (by simp [hP,hhOk,back,Adj.cells,Cat.cells,Fn.cells,Mnd.cells,UA,U1,IA,I1,LA,L1,BA,B1,EA,E1,E2,eB,eI,eL])) ?_
  refine Qk ?_
  refine tr ?_
  have hr:=Option.some.inj h
  rw [← hr]
  refine ⟨_,(.cell tf_35 rfl rfl rfl (by simp) (by simp) (.tmp .nil)),?_⟩
  refine ⟨(.agg rfl (.one rfl rfl .nil)),[.val (.int .i64 0),.val (.slice none 0 0),.val (.slice none 0 0),.val (.slice none 0 0),.val (.slice none 0 0),.val (.int .i64 0),.val (.slice none 0 0),.val (.slice none 0 0),.val (.slice none 0 0),.val (.slice none 0 0),.val (.slice none 0 0),.val (.slice none 0 0),.val (.int .i64 0),.val (.slice none 0 0),.val (.slice none 0 0),.val (.slice none 0 0),.val (.slice none 0 0),.val (.int .i64 0),.val (.slice none 0 0),.val (.slice none 0 0),.val (.slice none 0 0),.val (.slice none 0 0),.val (.slice none 0 0),.val (.slice none 0 0),.val (.slice none 0 0),.val (.slice none 0 0),.val (.int .i64 v1.2.2)],[],by simp [Adj.cells,Cat.cells,Fn.cells,Mnd.cells,UA,U1,IA,I1,LA,L1,BA,B1,EA,E1,E2,eB,eI,eL],by simp,(.cons .refl (.cons .nil (.cons .nil (.cons .nil (.cons .nil (.cons .refl (.cons .nil (.cons .nil (.cons .nil (.cons .nil (.cons .nil (.cons .nil (.cons .refl (.cons .nil (.cons .nil (.cons .nil (.cons .nil (.cons .refl (.cons .nil (.cons .nil (.cons .nil (.cons .nil (.cons .nil (.cons .nil (.cons .nil (.cons .nil (.cons .refl .nil)))))))))))))))))))))))))))⟩
 have g2:¬ (¬ (v1.2.2=0)):=gQ
 clear g
 replace h:=if_r g2 h
 refine Qh ?_
 refine tn ?_
 refine Q6 ?_
 refine runQ hN fun K hK=>?_
 simp [-Q0,-Q8,-Q3,-Q9,-Q4,eL,eI,Q1,Qt,Q5,Qd,Qc,Adj.cells,Cat.cells,Fn.cells,Mnd.cells]
 repeat with_reducible refine sdQ ?_
 refine hK _ ?_;clear hK K
 refine tn ?_
 refine Qa (st':=⟨[(1,.adr 0 0 0),(2,.adr 1 0 0),(4,.adr 2 0 0),(5,.own 7 0 v1.2.1.length),(7,.adr 8 0 0)],[(0,.mix 14 [(Mnd.cells true m_)]),(1,.mix 26 [[.val (.int .i64 0),.val (.slice none 0 0),.val (.slice none 0 0),.val (.slice none 0 0),.val (.slice none 0 0),.val (.int .i64 0),.val (.slice none 0 0),.val (.slice none 0 0),.val (.slice none 0 0),.val (.slice none 0 0),.val (.slice none 0 0),.val (.slice none 0 0),.val (.int .i64 0),.val (.slice none 0 0),.val (.slice none 0 0),.val (.slice none 0 0),.val (.slice none 0 0),.val (.int .i64 0),.val (.slice none 0 0),.val (.slice none 0 0),.val (.slice none 0 0),.val (.slice none 0 0),.val (.slice none 0 0),.val (.slice none 0 0),.val (.slice none 0 0),.val (.slice none 0 0)]]),(2,.mix 5 [[.val (.int .i64 v1.1.n),.own 3 0 v1.1.fr.length,.own 4 0 v1.1.to.length,.own 5 0 v1.1.id.length,.own 6 0 v1.1.cs.length]]),(3,.row 1 (Is v1.1.fr)),(4,.row 1 (Is v1.1.to)),(5,.row 1 (Is v1.1.id)),(6,.row 1 (Ls v1.1.cs)),(7,.row 1 (Ls v1.2.1)),(8,.mix 5 [(Cat.cells true m_.f.s)])],9⟩) (Wk.r1 [(0,0),(1,1),(2,2),(3,3),(4,4),(5,5),(6,6),(7,7),(8,8)] (by simp [hP,hhOk,back,Adj.cells,Cat.cells,Fn.cells,Mnd.cells,UA,U1,IA,I1,LA,L1,BA,B1,EA,E1,E2,eB,eI,eL])) ?_
 refine Q6 ?_
 refine runQ hN fun K hK=>?_
 simp [-Q0,-Q8,-Q3,-Q9,-Q4,eL,eI,Q1,Qt,Q5,Qd,Qc,Adj.cells,Cat.cells,Fn.cells,Mnd.cells]
 repeat with_reducible refine sdQ ?_
 refine hK _ ?_;clear hK K
 refine tn ?_
 refine Qa (st':=⟨[(1,.adr 0 0 0),(2,.adr 1 0 0),(4,.adr 2 0 0),(5,.own 7 0 v1.2.1.length),(7,.adr 8 0 0),(8,.own 9 0 0),(9,.own 10 0 0),(10,.own 11 0 0)],[(0,.mix 14 [(Mnd.cells true m_)]),(1,.mix 26 [[.val (.int .i64 0),.val (.slice none 0 0),.val (.slice none 0 0),.val (.slice none 0 0),.val (.slice none 0 0),.val (.int .i64 0),.val (.slice none 0 0),.val (.slice none 0 0),.val (.slice none 0 0),.val (.slice none 0 0),.val (.slice none 0 0),.val (.slice none 0 0),.val (.int .i64 0),.val (.slice none 0 0),.val (.slice none 0 0),.val (.slice none 0 0),.val (.slice none 0 0),.val (.int .i64 0),.val (.slice none 0 0),.val (.slice none 0 0),.val (.slice none 0 0),.val (.slice none 0 0),.val (.slice none 0 0),.val (.slice none 0 0),.val (.slice none 0 0),.val (.slice none 0 0)]]),(2,.mix 5 [[.val (.int .i64 v1.1.n),.own 3 0 v1.1.fr.length,.own 4 0 v1.1.to.length,.own 5 0 v1.1.id.length,.own 6 0 v1.1.cs.length]]),(3,.row 1 (Is v1.1.fr)),(4,.row 1 (Is v1.1.to)),(5,.row 1 (Is v1.1.id)),(6,.row 1 (Ls v1.1.cs)),(7,.row 1 (Ls v1.2.1)),(8,.mix 5 [(Cat.cells true m_.f.s)]),(9,.mix 1 []),(10,.mix 1 []),(11,.mix 1 [])],12⟩) (Wk.r1 [(0,0),(1,1),(2,2),(3,3),(4,4),(5,5),(6,6),(7,7),(8,8),(9,9),(10,10),(11,11)] (by simp [hP,hhOk,back,Adj.cells,Cat.cells,Fn.cells,Mnd.cells,UA,U1,IA,I1,LA,L1,BA,B1,EA,E1,E2,eB,eI,eL])) ?_
 refine Q6 ?_
 refine Q6 ?_
 refine runQ hN fun K hK=>?_
 simp [-Q0,-Q8,-Q3,-Q9,-Q4,eL,eI,Q1,Qt,Q5,Qd,Qc,Adj.cells,Cat.cells,Fn.cells,Mnd.cells]
 repeat with_reducible refine sdQ ?_
 refine hK _ ?_;clear hK K
 refine tn ?_
 refine Qa (st':=⟨[(1,.adr 0 0 0),(2,.adr 1 0 0),(4,.adr 2 0 0),(5,.own 7 0 v1.2.1.length),(7,.adr 8 0 0),(8,.own 9 0 0),(9,.own 10 0 0),(10,.own 11 0 0),(11,.val (.int .i64 0))],[(0,.mix 14 [(Mnd.cells true m_)]),(1,.mix 26 [[.val (.int .i64 0),.val (.slice none 0 0),.val (.slice none 0 0),.val (.slice none 0 0),.val (.slice none 0 0),.val (.int .i64 0),.val (.slice none 0 0),.val (.slice none 0 0),.val (.slice none 0 0),.val (.slice none 0 0),.val (.slice none 0 0),.val (.slice none 0 0),.val (.int .i64 0),.val (.slice none 0 0),.val (.slice none 0 0),.val (.slice none 0 0),.val (.slice none 0 0),.val (.int .i64 0),.val (.slice none 0 0),.val (.slice none 0 0),.val (.slice none 0 0),.val (.slice none 0 0),.val (.slice none 0 0),.val (.slice none 0 0),.val (.slice none 0 0),.val (.slice none 0 0)]]),(2,.mix 5 [[.val (.int .i64 v1.1.n),.own 3 0 v1.1.fr.length,.own 4 0 v1.1.to.length,.own 5 0 v1.1.id.length,.own 6 0 v1.1.cs.length]]),(3,.row 1 (Is v1.1.fr)),(4,.row 1 (Is v1.1.to)),(5,.row 1 (Is v1.1.id)),(6,.row 1 (Ls v1.1.cs)),(7,.row 1 (Ls v1.2.1)),(8,.mix 5 [(Cat.cells true m_.f.s)]),(9,.mix 1 []),(10,.mix 1 []),(11,.mix 1 [])],12⟩) (Wk.r1 [(0,0),(1,1),(2,2),(3,3),(4,4),(5,5),(6,6),(7,7),(8,8),(9,9),(10,10),(11,11)] (by simp [hP,hhOk,back,Adj.cells,Cat.cells,Fn.cells,Mnd.cells,UA,U1,IA,I1,LA,L1,BA,B1,EA,E1,E2,eB,eI,eL])) ?_
 replace h:=bind_some h
 obtain ⟨e3,h,h3⟩:=h
 refine Qm (fun b3:List Int=>⟨[(1,.adr 0 0 0),(2,.adr 1 0 0),(4,.adr 2 0 0),(5,.own 7 0 v1.2.1.length),(7,.adr 8 0 0),(8,.own 9 0 b3.length),(9,.own 10 0 0),(10,.own 11 0 0)],[(0,.mix 14 [(Mnd.cells true m_)]),(1,.mix 26 [[.val (.int .i64 0),.val (.slice none 0 0),.val (.slice none 0 0),.val (.slice none 0 0),.val (.slice none 0 0),.val (.int .i64 0),.val (.slice none 0 0),.val (.slice none 0 0),.val (.slice none 0 0),.val (.slice none 0 0),.val (.slice none 0 0),.val (.slice none 0 0),.val (.int .i64 0),.val (.slice none 0 0),.val (.slice none 0 0),.val (.slice none 0 0),.val (.slice none 0 0),.val (.int .i64 0),.val (.slice none 0 0),.val (.slice none 0 0),.val (.slice none 0 0),.val (.slice none 0 0),.val (.slice none 0 0),.val (.slice none 0 0),.val (.slice none 0 0),.val (.slice none 0 0)]]),(2,.mix 5 [[.val (.int .i64 v1.1.n),.own 3 0 v1.1.fr.length,.own 4 0 v1.1.to.length,.own 5 0 v1.1.id.length,.own 6 0 v1.1.cs.length]]),(3,.row 1 (Is v1.1.fr)),(4,.row 1 (Is v1.1.to)),(5,.row 1 (Is v1.1.id)),(6,.row 1 (Ls v1.1.cs)),(7,.row 1 (Ls v1.2.1)),(8,.mix 5 [(Cat.cells true m_.f.s)]),(9,.row 1 (Is b3)),(10,.mix 1 []),(11,.mix 1 [])],12⟩) (fun b3=>b3=e3) ?_ ?_
 ·refine Qf ?_
  refine Qy h (fun s12:List Int × Int=>⟨[(1,.adr 0 0 0),(2,.adr 1 0 0),(4,.adr 2 0 0),(5,.own 7 0 v1.2.1.length),(7,.adr 8 0 0),(8,.own 9 0 s12.1.length),(9,.own 10 0 0),(10,.own 11 0 0),(11,.val (.int .i64 s12.2))],[(0,.mix 14 [(Mnd.cells true m_)]),(1,.mix 26 [[.val (.int .i64 0),.val (.slice none 0 0),.val (.slice none 0 0),.val (.slice none 0 0),.val (.slice none 0 0),.val (.int .i64 0),.val (.slice none 0 0),.val (.slice none 0 0),.val (.slice none 0 0),.val (.slice none 0 0),.val (.slice none 0 0),.val (.slice none 0 0),.val (.int .i64 0),.val (.slice none 0 0),.val (.slice none 0 0),.val (.slice none 0 0),.val (.slice none 0 0),.val (.int .i64 0),.val (.slice none 0 0),.val (.slice none 0 0),.val (.slice none 0 0),.val (.slice none 0 0),.val (.slice none 0 0),.val (.slice none 0 0),.val (.slice none 0 0),.val (.slice none 0 0)]]),(2,.mix 5 [[.val (.int .i64 v1.1.n),.own 3 0 v1.1.fr.length,.own 4 0 v1.1.to.length,.own 5 0 v1.1.id.length,.own 6 0 v1.1.cs.length]]),(3,.row 1 (Is v1.1.fr)),(4,.row 1 (Is v1.1.to)),(5,.row 1 (Is v1.1.id)),(6,.row 1 (Ls v1.1.cs)),(7,.row 1 (Ls v1.2.1)),(8,.mix 5 [(Cat.cells true m_.f.s)]),(9,.row 1 (Is s12.1)),(10,.mix 1 []),(11,.mix 1 [])],12⟩) (Q3h ⟨[(1,.adr 0 0 0),(2,.adr 1 0 0),(4,.adr 2 0 0),(5,.own 7 0 v1.2.1.length),(7,.adr 8 0 0),(8,.own 9 0 0),(9,.own 10 0 0),(10,.own 11 0 0),(11,.val (.int .i64 0))],[(0,.mix 14 [(Mnd.cells true m_)]),(1,.mix 26 [[.val (.int .i64 0),.val (.slice none 0 0),.val (.slice none 0 0),.val (.slice none 0 0),.val (.slice none 0 0),.val (.int .i64 0),.val (.slice none 0 0),.val (.slice none 0 0),.val (.slice none 0 0),.val (.slice none 0 0),.val (.slice none 0 0),.val (.slice none 0 0),.val (.int .i64 0),.val (.slice none 0 0),.val (.slice none 0 0),.val (.slice none 0 0),.val (.slice none 0 0),.val (.int .i64 0),.val (.slice none 0 0),.val (.slice none 0 0),.val (.slice none 0 0),.val (.slice none 0 0),.val (.slice none 0 0),.val (.slice none 0 0),.val (.slice none 0 0),.val (.slice none 0 0)]]),(2,.mix 5 [[.val (.int .i64 v1.1.n),.own 3 0 v1.1.fr.length,.own 4 0 v1.1.to.length,.own 5 0 v1.1.id.length,.own 6 0 v1.1.cs.length]]),(3,.row 1 (Is v1.1.fr)),(4,.row 1 (Is v1.1.to)),(5,.row 1 (Is v1.1.id)),(6,.row 1 (Ls v1.1.cs)),(7,.row 1 (Ls v1.2.1)),(8,.mix 5 [(Cat.cells true m_.f.s)]),(9,.row 1 (Is [])),(10,.mix 1 []),(11,.mix 1 [])],12⟩ (Wk.nils [] (by simp) (by simp) (by simp [nlA]) (by simp [entN,nlL,nlA,Adj.cells,Cat.cells,Fn.cells,Mnd.cells,UA,U1,IA,I1,LA,L1,BA,B1,EA,E1,E2,eB,eI,eL]) (by simp)) (Wk.r1 [(0,0),(1,1),(2,2),(3,3),(4,4),(5,5),(6,6),(7,7),(8,8),(9,9),(10,10),(11,11)] (by simp [hP,hhOk,back,Adj.cells,Cat.cells,Fn.cells,Mnd.cells,UA,U1,IA,I1,LA,L1,BA,B1,EA,E1,E2,eB,eI,eL]))) ?_
  clear h
  intro k12 s12 c12 h hk12
  refine Q6 ?_
  refine Q6 ?_
  refine runQ hN fun K hK=>?_
  simp [-Q0,-Q8,-Q3,-Q9,-Q4,eL,eI,Q1,Qt,Q5,Qd,Qc,Adj.cells,Cat.cells,Fn.cells,Mnd.cells]
  repeat with_reducible refine sdQ ?_
  refine hK _ ?_;clear hK K
  refine tn ?_
  refine Qa (st':=⟨[(1,.adr 0 0 0),(2,.adr 1 0 0),(4,.adr 2 0 0),(5,.own 7 0 v1.2.1.length),(7,.adr 8 0 0),(8,.own 9 0 s12.1.length),(9,.own 10 0 0),(10,.own 11 0 0),(11,.val (.int .i64 s12.2)),(37,.val (.bool (decide (s12.2<(m_.f.s.fr.length:Int)))))],[(0,.mix 14 [(Mnd.cells true m_)]),(1,.mix 26 [[.val (.int .i64 0),.val (.slice none 0 0),.val (.slice none 0 0),.val (.slice none 0 0),.val (.slice none 0 0),.val (.int .i64 0),.val (.slice none 0 0),.val (.slice none 0 0),.val (.slice none 0 0),.val (.slice none 0 0),.val (.slice none 0 0),.val (.slice none 0 0),.val (.int .i64 0),.val (.slice none 0 0),.val (.slice none 0 0),.val (.slice none 0 0),.val (.slice none 0 0),.val (.int .i64 0),.val (.slice none 0 0),.val (.slice none 0 0),.val (.slice none 0 0),.val (.slice none 0 0),.val (.slice none 0 0),.val (.slice none 0 0),.val (.slice none 0 0),.val (.slice none 0 0)]]),(2,.mix 5 [[.val (.int .i64 v1.1.n),.own 3 0 v1.1.fr.length,.own 4 0 v1.1.to.length,.own 5 0 v1.1.id.length,.own 6 0 v1.1.cs.length]]),(3,.row 1 (Is v1.1.fr)),(4,.row 1 (Is v1.1.to)),(5,.row 1 (Is v1.1.id)),(6,.row 1 (Ls v1.1.cs)),(7,.row 1 (Ls v1.2.1)),(8,.mix 5 [(Cat.cells true m_.f.s)]),(9,.row 1 (Is s12.1)),(10,.mix 1 []),(11,.mix 1 [])],12⟩) (Wk.r1 [(0,0),(1,1),(2,2),(3,3),(4,4),(5,5),(6,6),(7,7),(8,8),(9,9),(10,10),(11,11)] (by simp [hP,hhOk,back,Adj.cells,Cat.cells,Fn.cells,Mnd.cells,UA,U1,IA,I1,LA,L1,BA,B1,EA,E1,E2,eB,eI,eL])) ?_
  refine Qg rfl (fun g=>?_) fun g=>?_
  ·have g13:s12.2<(m_.f.s.fr.length:Int):=gQ
   clear g
   replace h:=if_l g13 h
   refine Qh ?_
   refine tn ?_
   refine Q6 ?_
   refine Qf ?_
   refine Q6 ?_
   refine runQ hN fun K hK=>?_
   replace h:=Q7 h
   obtain ⟨a14,h⟩:=h
   replace h:=Q7 h
   obtain ⟨a15,h⟩:=h
   simp [-Q0,-Q8,-Q3,-Q9,-Q4,eL,eI,Q1,Qt,Q5,Qd,Qc,Adj.cells,Cat.cells,Fn.cells,Mnd.cells,at_I a14,at_I a15]
   repeat with_reducible refine sdQ ?_
   refine hK _ ?_;clear hK K
   refine tn ?_
   refine Qa (st':=⟨[(1,.adr 0 0 0),(2,.adr 1 0 0),(4,.adr 2 0 0),(5,.own 7 0 v1.2.1.length),(7,.adr 8 0 0),(8,.own 9 0 s12.1.length),(9,.own 10 0 0),(10,.own 11 0 0),(11,.val (.int .i64 s12.2)),(12,.val (.int .i64 (ix m_.f.s.fr s12.2))),(13,.val (.int .i64 (ix m_.f.s.to s12.2)))],[(0,.mix 14 [(Mnd.cells true m_)]),(1,.mix 26 [[.val (.int .i64 0),.val (.slice none 0 0),.val (.slice none 0 0),.val (.slice none 0 0),.val (.slice none 0 0),.val (.int .i64 0),.val (.slice none 0 0),.val (.slice none 0 0),.val (.slice none 0 0),.val (.slice none 0 0),.val (.slice none 0 0),.val (.slice none 0 0),.val (.int .i64 0),.val (.slice none 0 0),.val (.slice none 0 0),.val (.slice none 0 0),.val (.slice none 0 0),.val (.int .i64 0),.val (.slice none 0 0),.val (.slice none 0 0),.val (.slice none 0 0),.val (.slice none 0 0),.val (.slice none 0 0),.val (.slice none 0 0),.val (.slice none 0 0),.val (.slice none 0 0)]]),(2,.mix 5 [[.val (.int .i64 v1.1.n),.own 3 0 v1.1.fr.length,.own 4 0 v1.1.to.length,.own 5 0 v1.1.id.length,.own 6 0 v1.1.cs.length]]),(3,.row 1 (Is v1.1.fr)),(4,.row 1 (Is v1.1.to)),(5,.row 1 (Is v1.1.id)),(6,.row 1 (Ls v1.1.cs)),(7,.row 1 (Ls v1.2.1)),(8,.mix 5 [(Cat.cells true m_.f.s)]),(9,.row 1 (Is s12.1)),(10,.mix 1 []),(11,.mix 1 [])],12⟩) (Wk.r1 [(0,0),(1,1),(2,2),(3,3),(4,4),(5,5),(6,6),(7,7),(8,8),(9,9),(10,10),(11,11)] (by simp [hP,hhOk,back,Adj.cells,Cat.cells,Fn.cells,Mnd.cells,UA,U1,IA,I1,LA,L1,BA,B1,EA,E1,E2,eB,eI,eL])) ?_
   refine runQ hN fun K hK=>?_
   replace h:=Q7 h
   obtain ⟨a16,h⟩:=h
   simp [-Q0,-Q8,-Q3,-Q9,-Q4,eL,eI,Q1,Qt,Q5,Qd,Qc,Adj.cells,Cat.cells,Fn.cells,Mnd.cells,at_I a16]
   repeat with_reducible refine sdQ ?_
   replace h:=bind_some h
   obtain ⟨v17,hv17,h⟩:=h
   refine Q2 (Q18 _ _ _ v17 hv17) (.cons (.aggL (.cons .val (.cons .lst (.cons .lst (.cons .lst (.cons .lst .nil)))))) (.cons .val (.cons .val .nil))) ?_
   simp [-Q0,-Q8,-Q3,-Q9,-Q4,unk,unA,unE,unT,unC,flat,eL,eI,Q1,Qt,Q5,Qd,Qc,Adj.cells,Cat.cells,Fn.cells,Mnd.cells,at_I a16]
   repeat with_reducible refine sdQ ?_
   replace h:=bind_some h
   obtain ⟨v18,hv18,h⟩:=h
   refine Q2 (Q3g _ _ v18 hv18) (.cons (.whole (by simp) (by simp) (by simp)) (.cons (.lits (es:=_) rfl (.cons rfl (.cons .val .nil) (.cons rfl (.cons .val .nil) (.cons rfl (.cons .val .nil) .nil))) rfl) .nil)) ?_
   replace h:=Q7 h
   obtain ⟨a19,h⟩:=h
   try simp only [List.length_append,List.length_cons,List.length_nil] at a19
   simp [-Q0,-Q8,-Q3,-Q9,-Q4,unk,unA,unE,unT,unC,flat,eL,eI,Q1,Qt,Q5,Qd,Qc,Adj.cells,Cat.cells,Fn.cells,Mnd.cells,at_I a16,a19]
   repeat with_reducible refine sdQ ?_
   refine hK _ ?_;clear hK K
   refine bn ?_
   refine tn ?_
   refine Qa (st':=⟨[(1,.adr 0 0 0),(2,.adr 1 0 0),(4,.adr 2 0 0),(5,.own 7 0 v1.2.1.length),(7,.adr 8 0 0),(8,.own 9 0 ((s12.1++[v18]).length)),(9,.own 10 0 0),(10,.own 11 0 0),(11,.val (.int .i64 s12.2))],[(0,.mix 14 [(Mnd.cells true m_)]),(1,.mix 26 [[.val (.int .i64 0),.val (.slice none 0 0),.val (.slice none 0 0),.val (.slice none 0 0),.val (.slice none 0 0),.val (.int .i64 0),.val (.slice none 0 0),.val (.slice none 0 0),.val (.slice none 0 0),.val (.slice none 0 0),.val (.slice none 0 0),.val (.slice none 0 0),.val (.int .i64 0),.val (.slice none 0 0),.val (.slice none 0 0),.val (.slice none 0 0),.val (.slice none 0 0),.val (.int .i64 0),.val (.slice none 0 0),.val (.slice none 0 0),.val (.slice none 0 0),.val (.slice none 0 0),.val (.slice none 0 0),.val (.slice none 0 0),.val (.slice none 0 0),.val (.slice none 0 0)]]),(2,.mix 5 [[.val (.int .i64 v1.1.n),.own 3 0 v1.1.fr.length,.own 4 0 v1.1.to.length,.own 5 0 v1.1.id.length,.own 6 0 v1.1.cs.length]]),(3,.row 1 (Is v1.1.fr)),(4,.row 1 (Is v1.1.to)),(5,.row 1 (Is v1.1.id)),(6,.row 1 (Ls v1.1.cs)),(7,.row 1 (Ls v1.2.1)),(8,.mix 5 [(Cat.cells true m_.f.s)]),(9,.row 1 (Is (s12.1++[v18]))),(10,.mix 1 []),(11,.mix 1 [])],12⟩) (Wk.r1 [(0,0),(1,1),(2,2),(3,3),(4,4),(5,5),(6,6),(7,7),(8,8),(16,9),(10,10),(11,11)] (by simp [hP,hhOk,back,Adj.cells,Cat.cells,Fn.cells,Mnd.cells,UA,U1,IA,I1,LA,L1,BA,B1,EA,E1,E2,eB,eI,eL])) ?_
   refine runQ hN fun K hK=>?_
   replace h:=Q7 h
   obtain ⟨a20,h⟩:=h
   simp [-Q0,-Q8,-Q3,-Q9,-Q4,eL,eI,Q1,Qt,Q5,Qd,Qc,Adj.cells,Cat.cells,Fn.cells,Mnd.cells,Qw a20]
   repeat with_reducible refine sdQ ?_
   refine hK _ ?_;clear hK K
   cases h
   exact rn (s':=(s12.1++[v18],s12.2+1)) hk12 (Wk.r1 [(0,0),(1,1),(2,2),(3,3),(4,4),(5,5),(6,6),(7,7),(8,8),(9,9),(10,10),(11,11)] (by simp [hP,hhOk,back,Adj.cells,Cat.cells,Fn.cells,Mnd.cells,UA,U1,IA,I1,LA,L1,BA,B1,EA,E1,E2,eB,eI,eL]))
  have g13:¬ (s12.2<(m_.f.s.fr.length:Int)):=gQ
  clear g
  replace h:=if_r g13 h
  refine Qp ?_
  refine tx ?_
  refine lx ?_
  refine bh ?_
  cases h
  exact jn (b:=s12.1) hk12 (Wk.r1 [(0,0),(1,1),(2,2),(3,3),(4,4),(5,5),(6,6),(7,7),(8,8),(9,9),(10,10),(11,11)] (by simp [hP,hhOk,back,Adj.cells,Cat.cells,Fn.cells,Mnd.cells,UA,U1,IA,I1,LA,L1,BA,B1,EA,E1,E2,eB,eI,eL]))
 intro b3 hb3
 have h:=h3
 rw [← hb3] at h
 clear h3
 try dsimp only at h
 refine Q6 ?_
 refine Q6 ?_
 refine runQ hN fun K hK=>?_
 simp [-Q0,-Q8,-Q3,-Q9,-Q4,eL,eI,Q1,Qt,Q5,Qd,Qc,Adj.cells,Cat.cells,Fn.cells,Mnd.cells]
 repeat with_reducible refine sdQ ?_
 refine hK _ ?_;clear hK K
 refine tn ?_
 refine Qa (st':=⟨[(1,.adr 0 0 0),(2,.adr 1 0 0),(4,.adr 2 0 0),(5,.own 7 0 v1.2.1.length),(7,.adr 8 0 0),(8,.own 9 0 b3.length),(9,.own 10 0 0),(10,.own 11 0 0),(14,.val (.int .i64 0))],[(0,.mix 14 [(Mnd.cells true m_)]),(1,.mix 26 [[.val (.int .i64 0),.val (.slice none 0 0),.val (.slice none 0 0),.val (.slice none 0 0),.val (.slice none 0 0),.val (.int .i64 0),.val (.slice none 0 0),.val (.slice none 0 0),.val (.slice none 0 0),.val (.slice none 0 0),.val (.slice none 0 0),.val (.slice none 0 0),.val (.int .i64 0),.val (.slice none 0 0),.val (.slice none 0 0),.val (.slice none 0 0),.val (.slice none 0 0),.val (.int .i64 0),.val (.slice none 0 0),.val (.slice none 0 0),.val (.slice none 0 0),.val (.slice none 0 0),.val (.slice none 0 0),.val (.slice none 0 0),.val (.slice none 0 0),.val (.slice none 0 0)]]),(2,.mix 5 [[.val (.int .i64 v1.1.n),.own 3 0 v1.1.fr.length,.own 4 0 v1.1.to.length,.own 5 0 v1.1.id.length,.own 6 0 v1.1.cs.length]]),(3,.row 1 (Is v1.1.fr)),(4,.row 1 (Is v1.1.to)),(5,.row 1 (Is v1.1.id)),(6,.row 1 (Ls v1.1.cs)),(7,.row 1 (Ls v1.2.1)),(8,.mix 5 [(Cat.cells true m_.f.s)]),(9,.row 1 (Is b3)),(10,.mix 1 []),(11,.mix 1 [])],12⟩) (Wk.r1 [(0,0),(1,1),(2,2),(3,3),(4,4),(5,5),(6,6),(7,7),(8,8),(9,9),(10,10),(11,11)] (by simp [hP,hhOk,back,Adj.cells,Cat.cells,Fn.cells,Mnd.cells,UA,U1,IA,I1,LA,L1,BA,B1,EA,E1,E2,eB,eI,eL])) ?_
 replace h:=bind_some h
 obtain ⟨e21,h,h21⟩:=h
 refine Qm (fun b21:List Int=>⟨[(1,.adr 0 0 0),(2,.adr 1 0 0),(4,.adr 2 0 0),(5,.own 7 0 v1.2.1.length),(7,.adr 8 0 0),(8,.own 9 0 b3.length),(9,.own 10 0 b21.length),(10,.own 11 0 0)],[(0,.mix 14 [(Mnd.cells true m_)]),(1,.mix 26 [[.val (.int .i64 0),.val (.slice none 0 0),.val (.slice none 0 0),.val (.slice none 0 0),.val (.slice none 0 0),.val (.int .i64 0),.val (.slice none 0 0),.val (.slice none 0 0),.val (.slice none 0 0),.val (.slice none 0 0),.val (.slice none 0 0),.val (.slice none 0 0),.val (.int .i64 0),.val (.slice none 0 0),.val (.slice none 0 0),.val (.slice none 0 0),.val (.slice none 0 0),.val (.int .i64 0),.val (.slice none 0 0),.val (.slice none 0 0),.val (.slice none 0 0),.val (.slice none 0 0),.val (.slice none 0 0),.val (.slice none 0 0),.val (.slice none 0 0),.val (.slice none 0 0)]]),(2,.mix 5 [[.val (.int .i64 v1.1.n),.own 3 0 v1.1.fr.length,.own 4 0 v1.1.to.length,.own 5 0 v1.1.id.length,.own 6 0 v1.1.cs.length]]),(3,.row 1 (Is v1.1.fr)),(4,.row 1 (Is v1.1.to)),(5,.row 1 (Is v1.1.id)),(6,.row 1 (Ls v1.1.cs)),(7,.row 1 (Ls v1.2.1)),(8,.mix 5 [(Cat.cells true m_.f.s)]),(9,.row 1 (Is b3)),(10,.row 1 (Is b21)),(11,.mix 1 [])],12⟩) (fun b21=>b21=e21) ?_ ?_
 ·refine Qf ?_
  refine Qy h (fun s32:List Int × Int=>⟨[(1,.adr 0 0 0),(2,.adr 1 0 0),(4,.adr 2 0 0),(5,.own 7 0 v1.2.1.length),(7,.adr 8 0 0),(8,.own 9 0 b3.length),(9,.own 10 0 s32.1.length),(10,.own 11 0 0),(14,.val (.int .i64 s32.2))],[(0,.mix 14 [(Mnd.cells true m_)]),(1,.mix 26 [[.val (.int .i64 0),.val (.slice none 0 0),.val (.slice none 0 0),.val (.slice none 0 0),.val (.slice none 0 0),.val (.int .i64 0),.val (.slice none 0 0),.val (.slice none 0 0),.val (.slice none 0 0),.val (.slice none 0 0),.val (.slice none 0 0),.val (.slice none 0 0),.val (.int .i64 0),.val (.slice none 0 0),.val (.slice none 0 0),.val (.slice none 0 0),.val (.slice none 0 0),.val (.int .i64 0),.val (.slice none 0 0),.val (.slice none 0 0),.val (.slice none 0 0),.val (.slice none 0 0),.val (.slice none 0 0),.val (.slice none 0 0),.val (.slice none 0 0),.val (.slice none 0 0)]]),(2,.mix 5 [[.val (.int .i64 v1.1.n),.own 3 0 v1.1.fr.length,.own 4 0 v1.1.to.length,.own 5 0 v1.1.id.length,.own 6 0 v1.1.cs.length]]),(3,.row 1 (Is v1.1.fr)),(4,.row 1 (Is v1.1.to)),(5,.row 1 (Is v1.1.id)),(6,.row 1 (Ls v1.1.cs)),(7,.row 1 (Ls v1.2.1)),(8,.mix 5 [(Cat.cells true m_.f.s)]),(9,.row 1 (Is b3)),(10,.row 1 (Is s32.1)),(11,.mix 1 [])],12⟩) (Q3h ⟨[(1,.adr 0 0 0),(2,.adr 1 0 0),(4,.adr 2 0 0),(5,.own 7 0 v1.2.1.length),(7,.adr 8 0 0),(8,.own 9 0 b3.length),(9,.own 10 0 0),(10,.own 11 0 0),(14,.val (.int .i64 0))],[(0,.mix 14 [(Mnd.cells true m_)]),(1,.mix 26 [[.val (.int .i64 0),.val (.slice none 0 0),.val (.slice none 0 0),.val (.slice none 0 0),.val (.slice none 0 0),.val (.int .i64 0),.val (.slice none 0 0),.val (.slice none 0 0),.val (.slice none 0 0),.val (.slice none 0 0),.val (.slice none 0 0),.val (.slice none 0 0),.val (.int .i64 0),.val (.slice none 0 0),.val (.slice none 0 0),.val (.slice none 0 0),.val (.slice none 0 0),.val (.int .i64 0),.val (.slice none 0 0),.val (.slice none 0 0),.val (.slice none 0 0),.val (.slice none 0 0),.val (.slice none 0 0),.val (.slice none 0 0),.val (.slice none 0 0),.val (.slice none 0 0)]]),(2,.mix 5 [[.val (.int .i64 v1.1.n),.own 3 0 v1.1.fr.length,.own 4 0 v1.1.to.length,.own 5 0 v1.1.id.length,.own 6 0 v1.1.cs.length]]),(3,.row 1 (Is v1.1.fr)),(4,.row 1 (Is v1.1.to)),(5,.row 1 (Is v1.1.id)),(6,.row 1 (Ls v1.1.cs)),(7,.row 1 (Ls v1.2.1)),(8,.mix 5 [(Cat.cells true m_.f.s)]),(9,.row 1 (Is b3)),(10,.row 1 (Is [])),(11,.mix 1 [])],12⟩ (Wk.nils [] (by simp) (by simp) (by simp [nlA]) (by simp [entN,nlL,nlA,Adj.cells,Cat.cells,Fn.cells,Mnd.cells,UA,U1,IA,I1,LA,L1,BA,B1,EA,E1,E2,eB,eI,eL]) (by simp)) (Wk.r1 [(0,0),(1,1),(2,2),(3,3),(4,4),(5,5),(6,6),(7,7),(8,8),(9,9),(10,10),(11,11)] (by simp [hP,hhOk,back,Adj.cells,Cat.cells,Fn.cells,Mnd.cells,UA,U1,IA,I1,LA,L1,BA,B1,EA,E1,E2,eB,eI,eL]))) ?_
  clear h
  intro k32 s32 c32 h hk32
  refine Q6 ?_
  refine Q6 ?_
  refine runQ hN fun K hK=>?_
  simp [-Q0,-Q8,-Q3,-Q9,-Q4,eL,eI,Q1,Qt,Q5,Qd,Qc,Adj.cells,Cat.cells,Fn.cells,Mnd.cells]
  repeat with_reducible refine sdQ ?_
  refine hK _ ?_;clear hK K
  refine tn ?_
  refine Qa (st':=⟨[(1,.adr 0 0 0),(2,.adr 1 0 0),(4,.adr 2 0 0),(5,.own 7 0 v1.2.1.length),(7,.adr 8 0 0),(8,.own 9 0 b3.length),(9,.own 10 0 s32.1.length),(10,.own 11 0 0),(14,.val (.int .i64 s32.2)),(69,.val (.bool (decide (s32.2<(v1.2.1.length:Int)))))],[(0,.mix 14 [(Mnd.cells true m_)]),(1,.mix 26 [[.val (.int .i64 0),.val (.slice none 0 0),.val (.slice none 0 0),.val (.slice none 0 0),.val (.slice none 0 0),.val (.int .i64 0),.val (.slice none 0 0),.val (.slice none 0 0),.val (.slice none 0 0),.val (.slice none 0 0),.val (.slice none 0 0),.val (.slice none 0 0),.val (.int .i64 0),.val (.slice none 0 0),.val (.slice none 0 0),.val (.slice none 0 0),.val (.slice none 0 0),.val (.int .i64 0),.val (.slice none 0 0),.val (.slice none 0 0),.val (.slice none 0 0),.val (.slice none 0 0),.val (.slice none 0 0),.val (.slice none 0 0),.val (.slice none 0 0),.val (.slice none 0 0)]]),(2,.mix 5 [[.val (.int .i64 v1.1.n),.own 3 0 v1.1.fr.length,.own 4 0 v1.1.to.length,.own 5 0 v1.1.id.length,.own 6 0 v1.1.cs.length]]),(3,.row 1 (Is v1.1.fr)),(4,.row 1 (Is v1.1.to)),(5,.row 1 (Is v1.1.id)),(6,.row 1 (Ls v1.1.cs)),(7,.row 1 (Ls v1.2.1)),(8,.mix 5 [(Cat.cells true m_.f.s)]),(9,.row 1 (Is b3)),(10,.row 1 (Is s32.1)),(11,.mix 1 [])],12⟩) (Wk.r1 [(0,0),(1,1),(2,2),(3,3),(4,4),(5,5),(6,6),(7,7),(8,8),(9,9),(10,10),(11,11)] (by simp [hP,hhOk,back,Adj.cells,Cat.cells,Fn.cells,Mnd.cells,UA,U1,IA,I1,LA,L1,BA,B1,EA,E1,E2,eB,eI,eL])) ?_
  refine Qg rfl (fun g=>?_) fun g=>?_
  ·have g33:s32.2<(v1.2.1.length:Int):=gQ
   clear g
   replace h:=if_l g33 h
   refine Qh ?_
   refine tn ?_
   refine Q6 ?_
   refine Qf ?_
   refine runQ hN fun K hK=>?_
   replace h:=Q7 h
   obtain ⟨a34,h⟩:=h
   replace h:=Q7 h
   obtain ⟨a35,h⟩:=h
   replace h:=Q7 h
   obtain ⟨a36,h⟩:=h
   replace h:=Q7 h
   obtain ⟨a37,h⟩:=h
   replace h:=Q7 h
   obtain ⟨a38,h⟩:=h
   replace h:=Q7 h
   obtain ⟨a39,h⟩:=h
   simp [-Q0,-Q8,-Q3,-Q9,-Q4,eL,eI,Q1,Qt,Q5,Qd,Qc,Adj.cells,Cat.cells,Fn.cells,Mnd.cells,at_L a34,(show (Is (rx v1.2.1 s32.2))[2]? = some [.val (.int .i64 (ix (rx v1.2.1 s32.2) 2))] from at_I (j:=2) a35),at_I a36,at_L a37,(show (Is (rx v1.2.1 s32.2))[1]? = some [.val (.int .i64 (ix (rx v1.2.1 s32.2) 1))] from at_I (j:=1) a38),at_I a39]
   repeat with_reducible refine sdQ ?_
   replace h:=bind_some h
   obtain ⟨v40,hv40,h⟩:=h
   refine Q2 (Q18 _ _ _ v40 hv40) (.cons (.aggL (.cons .val (.cons .lst (.cons .lst (.cons .lst (.cons .lst .nil)))))) (.cons .val (.cons .val .nil))) ?_
   replace h:=Q7 h
   obtain ⟨a41,h⟩:=h
   try simp only [List.length_append,List.length_cons,List.length_nil] at a41
   simp [-Q0,-Q8,-Q3,-Q9,-Q4,unk,unA,unE,unT,unC,flat,eL,eI,Q1,Qt,Q5,Qd,Qc,Adj.cells,Cat.cells,Fn.cells,Mnd.cells,at_L a34,at_I a36,at_L a37,at_I a39,a41]
   repeat with_reducible refine sdQ ?_
   refine hK _ ?_;clear hK K
   refine bn ?_
   refine tn ?_
   refine Qa (st':=⟨[(1,.adr 0 0 0),(2,.adr 1 0 0),(4,.adr 2 0 0),(5,.own 7 0 v1.2.1.length),(7,.adr 8 0 0),(8,.own 9 0 b3.length),(9,.own 10 0 ((s32.1++[v40]).length)),(10,.own 11 0 0),(14,.val (.int .i64 s32.2))],[(0,.mix 14 [(Mnd.cells true m_)]),(1,.mix 26 [[.val (.int .i64 0),.val (.slice none 0 0),.val (.slice none 0 0),.val (.slice none 0 0),.val (.slice none 0 0),.val (.int .i64 0),.val (.slice none 0 0),.val (.slice none 0 0),.val (.slice none 0 0),.val (.slice none 0 0),.val (.slice none 0 0),.val (.slice none 0 0),.val (.int .i64 0),.val (.slice none 0 0),.val (.slice none 0 0),.val (.slice none 0 0),.val (.slice none 0 0),.val (.int .i64 0),.val (.slice none 0 0),.val (.slice none 0 0),.val (.slice none 0 0),.val (.slice none 0 0),.val (.slice none 0 0),.val (.slice none 0 0),.val (.slice none 0 0),.val (.slice none 0 0)]]),(2,.mix 5 [[.val (.int .i64 v1.1.n),.own 3 0 v1.1.fr.length,.own 4 0 v1.1.to.length,.own 5 0 v1.1.id.length,.own 6 0 v1.1.cs.length]]),(3,.row 1 (Is v1.1.fr)),(4,.row 1 (Is v1.1.to)),(5,.row 1 (Is v1.1.id)),(6,.row 1 (Ls v1.1.cs)),(7,.row 1 (Ls v1.2.1)),(8,.mix 5 [(Cat.cells true m_.f.s)]),(9,.row 1 (Is b3)),(10,.row 1 (Is (s32.1++[v40]))),(11,.mix 1 [])],12⟩) (Wk.r1 [(0,0),(1,1),(2,2),(3,3),(4,4),(5,5),(6,6),(7,7),(8,8),(9,9),(18,10),(11,11)] (by simp [hP,hhOk,back,Adj.cells,Cat.cells,Fn.cells,Mnd.cells,UA,U1,IA,I1,LA,L1,BA,B1,EA,E1,E2,eB,eI,eL])) ?_
   refine runQ hN fun K hK=>?_
   replace h:=Q7 h
   obtain ⟨a42,h⟩:=h
   simp [-Q0,-Q8,-Q3,-Q9,-Q4,eL,eI,Q1,Qt,Q5,Qd,Qc,Adj.cells,Cat.cells,Fn.cells,Mnd.cells,Qw a42]
   repeat with_reducible refine sdQ ?_
   refine hK _ ?_;clear hK K
   cases h
   exact rn (s':=(s32.1++[v40],s32.2+1)) hk32 (Wk.r1 [(0,0),(1,1),(2,2),(3,3),(4,4),(5,5),(6,6),(7,7),(8,8),(9,9),(10,10),(11,11)] (by simp [hP,hhOk,back,Adj.cells,Cat.cells,Fn.cells,Mnd.cells,UA,U1,IA,I1,LA,L1,BA,B1,EA,E1,E2,eB,eI,eL]))
  have g33:¬ (s32.2<(v1.2.1.length:Int)):=gQ
  clear g
  replace h:=if_r g33 h
  refine Qp ?_
  refine tx ?_
  refine lx ?_
  refine bh ?_
  cases h
  exact jn (b:=s32.1) hk32 (Wk.r1 [(0,0),(1,1),(2,2),(3,3),(4,4),(5,5),(6,6),(7,7),(8,8),(9,9),(10,10),(11,11)] (by simp [hP,hhOk,back,Adj.cells,Cat.cells,Fn.cells,Mnd.cells,UA,U1,IA,I1,LA,L1,BA,B1,EA,E1,E2,eB,eI,eL]))
 intro b21 hb21
 have h:=h21
 rw [← hb21] at h
 clear h21
 try dsimp only at h
 refine Q6 ?_
 refine Q6 ?_
 refine runQ hN fun K hK=>?_
 simp [-Q0,-Q8,-Q3,-Q9,-Q4,eL,eI,Q1,Qt,Q5,Qd,Qc,Adj.cells,Cat.cells,Fn.cells,Mnd.cells]
 repeat with_reducible refine sdQ ?_
 refine hK _ ?_;clear hK K
 refine tn ?_
 refine Qa (st':=⟨[(1,.adr 0 0 0),(2,.adr 1 0 0),(4,.adr 2 0 0),(5,.own 7 0 v1.2.1.length),(7,.adr 8 0 0),(8,.own 9 0 b3.length),(9,.own 10 0 b21.length),(10,.own 11 0 0),(15,.val (.int .i64 0))],[(0,.mix 14 [(Mnd.cells true m_)]),(1,.mix 26 [[.val (.int .i64 0),.val (.slice none 0 0),.val (.slice none 0 0),.val (.slice none 0 0),.val (.slice none 0 0),.val (.int .i64 0),.val (.slice none 0 0),.val (.slice none 0 0),.val (.slice none 0 0),.val (.slice none 0 0),.val (.slice none 0 0),.val (.slice none 0 0),.val (.int .i64 0),.val (.slice none 0 0),.val (.slice none 0 0),.val (.slice none 0 0),.val (.slice none 0 0),.val (.int .i64 0),.val (.slice none 0 0),.val (.slice none 0 0),.val (.slice none 0 0),.val (.slice none 0 0),.val (.slice none 0 0),.val (.slice none 0 0),.val (.slice none 0 0),.val (.slice none 0 0)]]),(2,.mix 5 [[.val (.int .i64 v1.1.n),.own 3 0 v1.1.fr.length,.own 4 0 v1.1.to.length,.own 5 0 v1.1.id.length,.own 6 0 v1.1.cs.length]]),(3,.row 1 (Is v1.1.fr)),(4,.row 1 (Is v1.1.to)),(5,.row 1 (Is v1.1.id)),(6,.row 1 (Ls v1.1.cs)),(7,.row 1 (Ls v1.2.1)),(8,.mix 5 [(Cat.cells true m_.f.s)]),(9,.row 1 (Is b3)),(10,.row 1 (Is b21)),(11,.mix 1 [])],12⟩) (Wk.r1 [(0,0),(1,1),(2,2),(3,3),(4,4),(5,5),(6,6),(7,7),(8,8),(9,9),(10,10),(11,11)] (by simp [hP,hhOk,back,Adj.cells,Cat.cells,Fn.cells,Mnd.cells,UA,U1,IA,I1,LA,L1,BA,B1,EA,E1,E2,eB,eI,eL])) ?_
 replace h:=bind_some h
 obtain ⟨e43,h,h43⟩:=h
 refine Qm (fun b43:List Int=>⟨[(1,.adr 0 0 0),(2,.adr 1 0 0),(4,.adr 2 0 0),(7,.adr 7 0 0),(8,.own 8 0 b3.length),(9,.own 9 0 b21.length),(10,.own 10 0 b43.length)],[(0,.mix 14 [(Mnd.cells true m_)]),(1,.mix 26 [[.val (.int .i64 0),.val (.slice none 0 0),.val (.slice none 0 0),.val (.slice none 0 0),.val (.slice none 0 0),.val (.int .i64 0),.val (.slice none 0 0),.val (.slice none 0 0),.val (.slice none 0 0),.val (.slice none 0 0),.val (.slice none 0 0),.val (.slice none 0 0),.val (.int .i64 0),.val (.slice none 0 0),.val (.slice none 0 0),.val (.slice none 0 0),.val (.slice none 0 0),.val (.int .i64 0),.val (.slice none 0 0),.val (.slice none 0 0),.val (.slice none 0 0),.val (.slice none 0 0),.val (.slice none 0 0),.val (.slice none 0 0),.val (.slice none 0 0),.val (.slice none 0 0)]]),(2,.mix 5 [[.val (.int .i64 v1.1.n),.own 3 0 v1.1.fr.length,.own 4 0 v1.1.to.length,.own 5 0 v1.1.id.length,.own 6 0 v1.1.cs.length]]),(3,.row 1 (Is v1.1.fr)),(4,.row 1 (Is v1.1.to)),(5,.row 1 (Is v1.1.id)),(6,.row 1 (Ls v1.1.cs)),(7,.mix 5 [(Cat.cells true m_.f.s)]),(8,.row 1 (Is b3)),(9,.row 1 (Is b21)),(10,.row 1 (Is b43))],11⟩) (fun b43=>b43=e43) ?_ ?_
 ·refine Qf ?_
  refine Qy h (fun s50:List Int × Int=>⟨[(1,.adr 0 0 0),(2,.adr 1 0 0),(4,.adr 2 0 0),(5,.own 7 0 v1.2.1.length),(7,.adr 8 0 0),(8,.own 9 0 b3.length),(9,.own 10 0 b21.length),(10,.own 11 0 s50.1.length),(15,.val (.int .i64 s50.2))],[(0,.mix 14 [(Mnd.cells true m_)]),(1,.mix 26 [[.val (.int .i64 0),.val (.slice none 0 0),.val (.slice none 0 0),.val (.slice none 0 0),.val (.slice none 0 0),.val (.int .i64 0),.val (.slice none 0 0),.val (.slice none 0 0),.val (.slice none 0 0),.val (.slice none 0 0),.val (.slice none 0 0),.val (.slice none 0 0),.val (.int .i64 0),.val (.slice none 0 0),.val (.slice none 0 0),.val (.slice none 0 0),.val (.slice none 0 0),.val (.int .i64 0),.val (.slice none 0 0),.val (.slice none 0 0),.val (.slice none 0 0),.val (.slice none 0 0),.val (.slice none 0 0),.val (.slice none 0 0),.val (.slice none 0 0),.val (.slice none 0 0)]]),(2,.mix 5 [[.val (.int .i64 v1.1.n),.own 3 0 v1.1.fr.length,.own 4 0 v1.1.to.length,.own 5 0 v1.1.id.length,.own 6 0 v1.1.cs.length]]),(3,.row 1 (Is v1.1.fr)),(4,.row 1 (Is v1.1.to)),(5,.row 1 (Is v1.1.id)),(6,.row 1 (Ls v1.1.cs)),(7,.row 1 (Ls v1.2.1)),(8,.mix 5 [(Cat.cells true m_.f.s)]),(9,.row 1 (Is b3)),(10,.row 1 (Is b21)),(11,.row 1 (Is s50.1))],12⟩) (Q3h ⟨[(1,.adr 0 0 0),(2,.adr 1 0 0),(4,.adr 2 0 0),(5,.own 7 0 v1.2.1.length),(7,.adr 8 0 0),(8,.own 9 0 b3.length),(9,.own 10 0 b21.length),(10,.own 11 0 0),(15,.val (.int .i64 0))],[(0,.mix 14 [(Mnd.cells true m_)]),(1,.mix 26 [[.val (.int .i64 0),.val (.slice none 0 0),.val (.slice none 0 0),.val (.slice none 0 0),.val (.slice none 0 0),.val (.int .i64 0),.val (.slice none 0 0),.val (.slice none 0 0),.val (.slice none 0 0),.val (.slice none 0 0),.val (.slice none 0 0),.val (.slice none 0 0),.val (.int .i64 0),.val (.slice none 0 0),.val (.slice none 0 0),.val (.slice none 0 0),.val (.slice none 0 0),.val (.int .i64 0),.val (.slice none 0 0),.val (.slice none 0 0),.val (.slice none 0 0),.val (.slice none 0 0),.val (.slice none 0 0),.val (.slice none 0 0),.val (.slice none 0 0),.val (.slice none 0 0)]]),(2,.mix 5 [[.val (.int .i64 v1.1.n),.own 3 0 v1.1.fr.length,.own 4 0 v1.1.to.length,.own 5 0 v1.1.id.length,.own 6 0 v1.1.cs.length]]),(3,.row 1 (Is v1.1.fr)),(4,.row 1 (Is v1.1.to)),(5,.row 1 (Is v1.1.id)),(6,.row 1 (Ls v1.1.cs)),(7,.row 1 (Ls v1.2.1)),(8,.mix 5 [(Cat.cells true m_.f.s)]),(9,.row 1 (Is b3)),(10,.row 1 (Is b21)),(11,.row 1 (Is []))],12⟩ (Wk.nils [] (by simp) (by simp) (by simp [nlA]) (by simp [entN,nlL,nlA,Adj.cells,Cat.cells,Fn.cells,Mnd.cells,UA,U1,IA,I1,LA,L1,BA,B1,EA,E1,E2,eB,eI,eL]) (by simp)) (Wk.r1 [(0,0),(1,1),(2,2),(3,3),(4,4),(5,5),(6,6),(7,7),(8,8),(9,9),(10,10),(11,11)] (by simp [hP,hhOk,back,Adj.cells,Cat.cells,Fn.cells,Mnd.cells,UA,U1,IA,I1,LA,L1,BA,B1,EA,E1,E2,eB,eI,eL]))) ?_
  clear h
  intro k50 s50 c50 h hk50
  refine Q6 ?_
  refine Q6 ?_
  refine runQ hN fun K hK=>?_
  simp [-Q0,-Q8,-Q3,-Q9,-Q4,eL,eI,Q1,Qt,Q5,Qd,Qc,Adj.cells,Cat.cells,Fn.cells,Mnd.cells]
  repeat with_reducible refine sdQ ?_
  refine hK _ ?_;clear hK K
  refine tn ?_
  refine Qa (st':=⟨[(1,.adr 0 0 0),(2,.adr 1 0 0),(4,.adr 2 0 0),(5,.own 7 0 v1.2.1.length),(7,.adr 8 0 0),(8,.own 9 0 b3.length),(9,.own 10 0 b21.length),(10,.own 11 0 s50.1.length),(15,.val (.int .i64 s50.2)),(101,.val (.bool (decide (s50.2<m_.f.s.n))))],[(0,.mix 14 [(Mnd.cells true m_)]),(1,.mix 26 [[.val (.int .i64 0),.val (.slice none 0 0),.val (.slice none 0 0),.val (.slice none 0 0),.val (.slice none 0 0),.val (.int .i64 0),.val (.slice none 0 0),.val (.slice none 0 0),.val (.slice none 0 0),.val (.slice none 0 0),.val (.slice none 0 0),.val (.slice none 0 0),.val (.int .i64 0),.val (.slice none 0 0),.val (.slice none 0 0),.val (.slice none 0 0),.val (.slice none 0 0),.val (.int .i64 0),.val (.slice none 0 0),.val (.slice none 0 0),.val (.slice none 0 0),.val (.slice none 0 0),.val (.slice none 0 0),.val (.slice none 0 0),.val (.slice none 0 0),.val (.slice none 0 0)]]),(2,.mix 5 [[.val (.int .i64 v1.1.n),.own 3 0 v1.1.fr.length,.own 4 0 v1.1.to.length,.own 5 0 v1.1.id.length,.own 6 0 v1.1.cs.length]]),(3,.row 1 (Is v1.1.fr)),(4,.row 1 (Is v1.1.to)),(5,.row 1 (Is v1.1.id)),(6,.row 1 (Ls v1.1.cs)),(7,.row 1 (Ls v1.2.1)),(8,.mix 5 [(Cat.cells true m_.f.s)]),(9,.row 1 (Is b3)),(10,.row 1 (Is b21)),(11,.row 1 (Is s50.1))],12⟩) (Wk.r1 [(0,0),(1,1),(2,2),(3,3),(4,4),(5,5),(6,6),(7,7),(8,8),(9,9),(10,10),(11,11)] (by simp [hP,hhOk,back,Adj.cells,Cat.cells,Fn.cells,Mnd.cells,UA,U1,IA,I1,LA,L1,BA,B1,EA,E1,E2,eB,eI,eL])) ?_
  refine Qg rfl (fun g=>?_) fun g=>?_
  ·have g51:s50.2<m_.f.s.n:=gQ
   clear g
   replace h:=if_l g51 h
   refine Qh ?_
   refine tn ?_
   refine Q6 ?_
   refine Qf ?_
   refine Q6 ?_
   refine runQ hN fun K hK=>?_
   replace h:=Q7 h
   obtain ⟨a52,h⟩:=h
   simp [-Q0,-Q8,-Q3,-Q9,-Q4,eL,eI,Q1,Qt,Q5,Qd,Qc,Adj.cells,Cat.cells,Fn.cells,Mnd.cells,at_I a52]
   repeat with_reducible refine sdQ ?_
   refine hK _ ?_;clear hK K
   refine tn ?_
   refine Qa (st':=⟨[(1,.adr 0 0 0),(2,.adr 1 0 0),(4,.adr 2 0 0),(5,.own 7 0 v1.2.1.length),(7,.adr 8 0 0),(8,.own 9 0 b3.length),(9,.own 10 0 b21.length),(10,.own 11 0 s50.1.length),(15,.val (.int .i64 s50.2)),(16,.val (.int .i64 (ix m_.f.ob s50.2)))],[(0,.mix 14 [(Mnd.cells true m_)]),(1,.mix 26 [[.val (.int .i64 0),.val (.slice none 0 0),.val (.slice none 0 0),.val (.slice none 0 0),.val (.slice none 0 0),.val (.int .i64 0),.val (.slice none 0 0),.val (.slice none 0 0),.val (.slice none 0 0),.val (.slice none 0 0),.val (.slice none 0 0),.val (.slice none 0 0),.val (.int .i64 0),.val (.slice none 0 0),.val (.slice none 0 0),.val (.slice none 0 0),.val (.slice none 0 0),.val (.int .i64 0),.val (.slice none 0 0),.val (.slice none 0 0),.val (.slice none 0 0),.val (.slice none 0 0),.val (.slice none 0 0),.val (.slice none 0 0),.val (.slice none 0 0),.val (.slice none 0 0)]]),(2,.mix 5 [[.val (.int .i64 v1.1.n),.own 3 0 v1.1.fr.length,.own 4 0 v1.1.to.length,.own 5 0 v1.1.id.length,.own 6 0 v1.1.cs.length]]),(3,.row 1 (Is v1.1.fr)),(4,.row 1 (Is v1.1.to)),(5,.row 1 (Is v1.1.id)),(6,.row 1 (Ls v1.1.cs)),(7,.row 1 (Ls v1.2.1)),(8,.mix 5 [(Cat.cells true m_.f.s)]),(9,.row 1 (Is b3)),(10,.row 1 (Is b21)),(11,.row 1 (Is s50.1))],12⟩) (Wk.r1 [(0,0),(1,1),(2,2),(3,3),(4,4),(5,5),(6,6),(7,7),(8,8),(9,9),(10,10),(11,11)] (by simp [hP,hhOk,back,Adj.cells,Cat.cells,Fn.cells,Mnd.cells,UA,U1,IA,I1,LA,L1,BA,B1,EA,E1,E2,eB,eI,eL])) ?_
   refine runQ hN fun K hK=>?_
   replace h:=Q7 h
   obtain ⟨a53,h⟩:=h
   simp [-Q0,-Q8,-Q3,-Q9,-Q4,eL,eI,Q1,Qt,Q5,Qd,Qc,Adj.cells,Cat.cells,Fn.cells,Mnd.cells,at_I a53]
   repeat with_reducible refine sdQ ?_
   replace h:=bind_some h
   obtain ⟨v54,hv54,h⟩:=h
   refine Q2 (Q3g _ _ v54 hv54) (.cons (.whole (by simp) (by simp) (by simp)) (.cons (.lits (es:=_) rfl (.cons rfl (.cons .val .nil) (.cons rfl (.cons .val .nil) (.cons rfl (.cons .val .nil) .nil))) rfl) .nil)) ?_
   replace h:=Q7 h
   obtain ⟨a55,h⟩:=h
   try simp only [List.length_append,List.length_cons,List.length_nil] at a55
   simp [-Q0,-Q8,-Q3,-Q9,-Q4,unk,unA,unE,unT,unC,flat,eL,eI,Q1,Qt,Q5,Qd,Qc,Adj.cells,Cat.cells,Fn.cells,Mnd.cells,at_I a53,a55]
   repeat with_reducible refine sdQ ?_
   refine hK _ ?_;clear hK K
   refine bn ?_
   refine tn ?_
   refine Qa (st':=⟨[(1,.adr 0 0 0),(2,.adr 1 0 0),(4,.adr 2 0 0),(5,.own 7 0 v1.2.1.length),(7,.adr 8 0 0),(8,.own 9 0 b3.length),(9,.own 10 0 b21.length),(10,.own 11 0 ((s50.1++[v54]).length)),(15,.val (.int .i64 s50.2))],[(0,.mix 14 [(Mnd.cells true m_)]),(1,.mix 26 [[.val (.int .i64 0),.val (.slice none 0 0),.val (.slice none 0 0),.val (.slice none 0 0),.val (.slice none 0 0),.val (.int .i64 0),.val (.slice none 0 0),.val (.slice none 0 0),.val (.slice none 0 0),.val (.slice none 0 0),.val (.slice none 0 0),.val (.slice none 0 0),.val (.int .i64 0),.val (.slice none 0 0),.val (.slice none 0 0),.val (.slice none 0 0),.val (.slice none 0 0),.val (.int .i64 0),.val (.slice none 0 0),.val (.slice none 0 0),.val (.slice none 0 0),.val (.slice none 0 0),.val (.slice none 0 0),.val (.slice none 0 0),.val (.slice none 0 0),.val (.slice none 0 0)]]),(2,.mix 5 [[.val (.int .i64 v1.1.n),.own 3 0 v1.1.fr.length,.own 4 0 v1.1.to.length,.own 5 0 v1.1.id.length,.own 6 0 v1.1.cs.length]]),(3,.row 1 (Is v1.1.fr)),(4,.row 1 (Is v1.1.to)),(5,.row 1 (Is v1.1.id)),(6,.row 1 (Ls v1.1.cs)),(7,.row 1 (Ls v1.2.1)),(8,.mix 5 [(Cat.cells true m_.f.s)]),(9,.row 1 (Is b3)),(10,.row 1 (Is b21)),(11,.row 1 (Is (s50.1++[v54])))],12⟩) (Wk.r1 [(0,0),(1,1),(2,2),(3,3),(4,4),(5,5),(6,6),(7,7),(8,8),(9,9),(10,10),(15,11)] (by simp [hP,hhOk,back,Adj.cells,Cat.cells,Fn.cells,Mnd.cells,UA,U1,IA,I1,LA,L1,BA,B1,EA,E1,E2,eB,eI,eL])) ?_
   refine runQ hN fun K hK=>?_
   replace h:=Q7 h
   obtain ⟨a56,h⟩:=h
   simp [-Q0,-Q8,-Q3,-Q9,-Q4,eL,eI,Q1,Qt,Q5,Qd,Qc,Adj.cells,Cat.cells,Fn.cells,Mnd.cells,Qw a56]
   repeat with_reducible refine sdQ ?_
   refine hK _ ?_;clear hK K
   cases h
   exact rn (s':=(s50.1++[v54],s50.2+1)) hk50 (Wk.r1 [(0,0),(1,1),(2,2),(3,3),(4,4),(5,5),(6,6),(7,7),(8,8),(9,9),(10,10),(11,11)] (by simp [hP,hhOk,back,Adj.cells,Cat.cells,Fn.cells,Mnd.cells,UA,U1,IA,I1,LA,L1,BA,B1,EA,E1,E2,eB,eI,eL]))
  have g51:¬ (s50.2<m_.f.s.n):=gQ
  clear g
  replace h:=if_r g51 h
  refine Qp ?_
  refine tx ?_
  refine lx ?_
  refine bh ?_
  cases h
  exact jn (b:=s50.1) hk50 (Wk.r1 [(0,0),(1,1),(2,2),(3,3),(4,4),(5,5),(6,6),(8,7),(9,8),(10,9),(11,10)] (by simp [hP,hhOk,back,Adj.cells,Cat.cells,Fn.cells,Mnd.cells,UA,U1,IA,I1,LA,L1,BA,B1,EA,E1,E2,eB,eI,eL]))
 intro b43 hb43
 have h:=h43
 rw [← hb43] at h
 clear h43
 try dsimp only at h
 refine Q6 ?_
 refine runQ hN fun K hK=>?_
 simp [-Q0,-Q8,-Q3,-Q9,-Q4,eL,eI,Q1,Qt,Q5,Qd,Qc,Adj.cells,Cat.cells,Fn.cells,Mnd.cells]
 repeat with_reducible refine sdQ ?_
 replace h:=bind_some h
 obtain ⟨v57,hv57,h⟩:=h
 refine Q2 (Q5w _ v57 hv57) (.cons (.aggL (.cons .val (.cons .lst (.cons .lst (.cons .lst (.cons .lst .nil)))))) .nil) ?_
 simp [-Q0,-Q8,-Q3,-Q9,-Q4,unk,unA,unE,unT,unC,flat,eL,eI,Q1,Qt,Q5,Qd,Qc,Adj.cells,Cat.cells,Fn.cells,Mnd.cells]
 repeat with_reducible refine sdQ ?_
 replace h:=bind_some h
 obtain ⟨v58,hv58,h⟩:=h
 refine Q2 (Q3f _ _ _ _ v58 hv58) (.cons (.aggL (.cons .val (.cons .lst (.cons .lst (.cons .lst (.cons .lst .nil)))))) (.cons (.aggL (.cons .val (.cons (.whole (by simp) (by simp) (by simp)) (.cons (.whole (by simp) (by simp) (by simp)) (.cons (.whole (by simp) (by simp) (by simp)) (.cons (.whole (by simp) (by simp) (by simp)) .nil)))))) (.cons (.whole (by simp) (by simp) (by simp)) (.cons (.whole (by simp) (by simp) (by simp)) .nil)))) ?_
 simp [-Q0,-Q8,-Q3,-Q9,-Q4,unk,unA,unE,unT,unC,flat,eL,eI,Q1,Qt,Q5,Qd,Qc,Adj.cells,Cat.cells,Fn.cells,Mnd.cells]
 repeat with_reducible refine sdQ ?_
 replace h:=bind_some h
 obtain ⟨v59,hv59,h⟩:=h
 refine Q2 (Q3f _ _ _ _ v59 hv59) (.cons (.aggL (.cons .val (.cons (.whole (by simp) (by simp) (by simp)) (.cons (.whole (by simp) (by simp) (by simp)) (.cons (.whole (by simp) (by simp) (by simp)) (.cons (.whole (by simp) (by simp) (by simp)) .nil)))))) (.cons (.aggL (.cons .val (.cons .lst (.cons .lst (.cons .lst (.cons .lst .nil)))))) (.cons .lst (.cons (.whole (by simp) (by simp) (by simp)) .nil)))) ?_
 simp [-Q0,-Q8,-Q3,-Q9,-Q4,unk,unA,unE,unT,unC,flat,eL,eI,Q1,Qt,Q5,Qd,Qc,Adj.cells,Cat.cells,Fn.cells,Mnd.cells]
 repeat with_reducible refine sdQ ?_
 replace h:=bind_some h
 obtain ⟨v60,hv60,h⟩:=h
 refine Q2 (Q4y _ v60 hv60) (.cons .lst .nil) ?_
 simp [-Q0,-Q8,-Q3,-Q9,-Q4,unk,unA,unE,unT,unC,flat,eL,eI,Q1,Qt,Q5,Qd,Qc,Adj.cells,Cat.cells,Fn.cells,Mnd.cells]
 repeat with_reducible refine sdQ ?_
 refine hK _ ?_;clear hK K
 refine tn ?_
 refine Qa (st':=⟨[(2,.adr 0 0 0),(3,.val (.int .i64 0))],[(0,.mix 26 [[.val (.int .i64 v58.s.n),.own 1 0 v58.s.fr.length,.own 2 0 v58.s.to.length,.own 3 0 v58.s.id.length,.own 4 0 v58.s.cs.length,.val (.int .i64 v58.t.n),.own 5 0 v58.t.fr.length,.own 6 0 v58.t.to.length,.own 7 0 v58.t.id.length,.own 8 0 v58.t.cs.length,.own 9 0 v58.ob.length,.own 10 0 v58.ar.length,.val (.int .i64 v59.s.n),.own 11 0 v59.s.fr.length,.own 12 0 v59.s.to.length,.own 13 0 v59.s.id.length,.own 14 0 v59.s.cs.length,.val (.int .i64 v59.t.n),.own 15 0 v59.t.fr.length,.own 16 0 v59.t.to.length,.own 17 0 v59.t.id.length,.own 18 0 v59.t.cs.length,.own 19 0 v59.ob.length,.own 20 0 v59.ar.length,.own 21 0 v60.length,.own 22 0 b43.length]]),(1,.row 1 (Is v58.s.fr)),(2,.row 1 (Is v58.s.to)),(3,.row 1 (Is v58.s.id)),(4,.row 1 (Ls v58.s.cs)),(5,.row 1 (Is v58.t.fr)),(6,.row 1 (Is v58.t.to)),(7,.row 1 (Is v58.t.id)),(8,.row 1 (Ls v58.t.cs)),(9,.row 1 (Is v58.ob)),(10,.row 1 (Is v58.ar)),(11,.row 1 (Is v59.s.fr)),(12,.row 1 (Is v59.s.to)),(13,.row 1 (Is v59.s.id)),(14,.row 1 (Ls v59.s.cs)),(15,.row 1 (Is v59.t.fr)),(16,.row 1 (Is v59.t.to)),(17,.row 1 (Is v59.t.id)),(18,.row 1 (Ls v59.t.cs)),(19,.row 1 (Is v59.ob)),(20,.row 1 (Is v59.ar)),(21,.row 1 (Is v60)),(22,.row 1 (Is b43))],23⟩) (Wk.r1 [(1,0),(24,1),(25,2),(26,3),(27,4),(29,5),(30,6),(31,7),(32,8),(33,9),(34,10),(36,11),(37,12),(38,13),(39,14),(41,15),(42,16),(43,17),(44,18),(45,19),(46,20),(47,21),(10,22)] (by simp [hP,hhOk,back,Adj.cells,Cat.cells,Fn.cells,Mnd.cells,UA,U1,IA,I1,LA,L1,BA,B1,EA,E1,E2,eB,eI,eL])) ?_
 refine Qk ?_
 have hr:=Option.some.inj h
 rw [← hr]
 refine ⟨_,(.cell tf_35 rfl rfl rfl (by simp) (by simp) (.tmp .nil)),?_⟩
 refine ⟨(.agg rfl (.one rfl rfl .nil)),[.val (.int .i64 v58.s.n),.lst true 1 (Is v58.s.fr),.lst true 1 (Is v58.s.to),.lst true 1 (Is v58.s.id),.lst true 1 (Ls v58.s.cs),.val (.int .i64 v58.t.n),.lst true 1 (Is v58.t.fr),.lst true 1 (Is v58.t.to),.lst true 1 (Is v58.t.id),.lst true 1 (Ls v58.t.cs),.lst true 1 (Is v58.ob),.lst true 1 (Is v58.ar),.val (.int .i64 v59.s.n),.lst true 1 (Is v59.s.fr),.lst true 1 (Is v59.s.to),.lst true 1 (Is v59.s.id),.lst true 1 (Ls v59.s.cs),.val (.int .i64 v59.t.n),.lst true 1 (Is v59.t.fr),.lst true 1 (Is v59.t.to),.lst true 1 (Is v59.t.id),.lst true 1 (Ls v59.t.cs),.lst true 1 (Is v59.ob),.lst true 1 (Is v59.ar),.lst true 1 (Is v60),.lst true 1 (Is b43),.val (.int .i64 0)],[1,2,3,4,5,6,7,8,9,10,11,12,13,14,15,16,17,18,19,20,21,22],by simp [Adj.cells,Cat.cells,Fn.cells,Mnd.cells,UA,U1,IA,I1,LA,L1,BA,B1,EA,E1,E2,eB,eI,eL],by simp,(UpL.refl _)⟩
end Go.Vc.T
namespace Go.Vc.T
open Go Go.Vc Go.Proofs
theorem Cat.Is.Ai {c:Cat} (h:c.Is) {x:Int} (hx:0≤x∧x<c.n):Ar c (ix c.id x) x x:=by
 have h1:=h.1.li
 obtain ⟨i,rfl⟩:=Int.eq_ofNat_of_zero_le hx.1
 have h2:=h.1.ids i (by omega)
 exact ⟨h.1.id' (by omega) (by omega),h2.1,h2.2⟩
theorem Cat.Is.Af {c:Cat} (h:c.Is) {f:Int} (hf:0≤f∧f<(c.fr.length:Int)):Ar c f (ix c.fr f) (ix c.to f)∧(0≤ix c.fr f∧ix c.fr f<c.n)∧(0≤ix c.to f∧ix c.to f<c.n):=by
 have h1:=h.1.li
 have h2:=h.1.fr' hf.1 hf.2
 have h3:=h.1.to' hf.1 (by have:=h.1.lt;omega)
 exact ⟨⟨hf,rfl,rfl⟩,by omega,by omega⟩
theorem Q3I {ε β:Type} {body:List Int × Int→Option (Ctl (List Int × Int) ε)} {K:ε→Option β} {r:Option β} (n:Nat) (v:Nat→Int) {e:ε} (hn:n<1000000)
  (h:∀ i:Nat,i<n→body (tab i v,(i:Int))=(ass ((tab i v++[v i]).length≤1073741824) <| ass (B64 ((i:Int)+1)) <| some (.next (tab i v++[v i],(i:Int)+1))))
  (he:body (tab n v,(n:Int))=some (.ret e)) (hk:K e=r):(QH body fuel ([],0)).bind K=r:=by
 refine QM n (fun i=>tab i v) (e:=e) rfl (by omega) (fun i hi=>?_) he hk
 rw [h i hi,Qe (by simp;omega),Qe (by unfold B64;omega),Q4g]
def zeroAd:Adj:=⟨zeroF,zeroF,[],[]⟩
theorem zeroAd_ok:zeroAd.ok∧zeroAd.size≤10000:=by simp [zeroAd,Adj.ok,Adj.size,Fn.ok,Fn.size,Cat.ok,Cat.size,zeroF,sumL]
noncomputable def kaL (m:Mnd) (f:Nat):Int:=posL (klL m) [ix m.f.s.fr f,ix m.f.s.to f,ix (rx m.f.s.cs f) (ix m.u (ix m.f.s.to f))]
noncomputable def kaR (m:Mnd) (i:Nat):Int:=ix (rx m.f.s.cs (ix m.f.ar (ix (rx (klL m) i) 2))) (ix m.j (ix (rx (klL m) i) 1))
noncomputable def kaK (m:Mnd) (y:Nat):Int:=posL (klL m) [ix m.f.ob y,(y:Int),ix m.f.s.id (ix m.f.ob y)]
noncomputable def kaV (m:Mnd):Adj:=⟨⟨m.f.s,kC m,iota m.f.s.n.toNat,tab m.f.s.fr.length (kaL m)⟩,⟨kC m,m.f.s,m.f.ob,tab (klL m).length (kaR m)⟩,m.u,tab m.f.ob.length (kaK m)⟩
theorem Q3W (m:Mnd):∃ r,Q17 m=some r∧Q15 m=some r∧r.1.ok∧r.1.size≤10000:=by
 obtain ⟨r,h1,h2,h3,_,h4⟩:=e_kCode m
 unfold Q17 Q15
 rw [h1,h2]
 simp only [Option.bind_some]
 by_cases h0:r.2.2=0
 case neg =>
  rw [if_pos h0,if_pos h0]
  exact ⟨(zeroAd,r.2.2),rfl,rfl,zeroAd_ok⟩
 obtain ⟨hm,h40,rfl⟩:=h4 h0
 obtain ⟨l1,l2,l3,l4,l5,l6,l7,l8,l9⟩:=hm.pre.len
 have hc:=hm.pre.f.s
 have hk:=Q8f (m:=m) (by omega) (by omega)
 have ok:=hc.ok
 have kok:(kC m).ok∧(kC m).size≤2000:=(bC_ok (n:=m.f.s.n) (L:=klL m) (idv:=fun x=>ix m.u x) (cmp:=fun a b=>Q3n m (ix b 1) (ix a 2) (ix b 2)) (by omega) h40)
 have csz:=(hc.1.size2).2
 have memL:∀ f:Nat,f<m.f.s.fr.length→(Ar m.f.s (ix m.u (ix m.f.s.to f)) (ix m.f.s.to f) (ix m.f.ob (ix m.f.s.to f))∧Ar m.f.s f (ix m.f.s.fr f) (ix m.f.s.to f))∧(0≤ix m.f.s.to f∧ix m.f.s.to f<m.f.s.n)∧[ix m.f.s.fr f,ix m.f.s.to f,ix (rx m.f.s.cs f) (ix m.u (ix m.f.s.to f))]∈klL m:=by
  intro f hf
  obtain ⟨a,b,d⟩:=hc.Af (f:=f) (by omega)
  have u:=hm.pre.Au rfl (x:=ix m.f.s.to f) (by omega)
  exact ⟨⟨u,a⟩,d,mem_kl.2 ⟨_,_,_,b,d,a.two hc u,rfl⟩⟩
 have memK:∀ y:Nat,y<m.f.ob.length→(0≤ix m.f.ob y∧ix m.f.ob y<m.f.s.n)∧[ix m.f.ob y,(y:Int),ix m.f.s.id (ix m.f.ob y)]∈klL m:=by
  intro y hy
  have o:=hm.pre.Ao (x:=y) (by omega)
  exact ⟨by omega,mem_kl.2 ⟨_,_,_,by omega,by omega,hc.Ai (by omega),rfl⟩⟩
 rw [if_neg (by simp),if_neg (by simp)]
 refine ⟨(kaV m,0),?_,?_,?_⟩
 ·simp only
  refine Q3I m.f.s.fr.length (kaL m) (e:=tab m.f.s.fr.length (kaL m)) (by omega) (fun i hi=>?_) (by simp) ?_
  ·obtain ⟨⟨u,a⟩,d,_⟩:=memL i hi
   simp only
   rw [if_pos (by omega),Qe (by omega),Qe (by omega),Qe (by omega),(a.thn hc u).1]
   simp only [Option.bind_some]
   rw [Q87 (by omega)]
   rfl
  refine Q3I (klL m).length (kaR m) (e:=tab (klL m).length (kaR m)) (by omega) (fun i hi=>?_) (by simp) ?_
  ·obtain ⟨x,y,f,hx,hy,hf,e3⟩:=Q5K hi
   have a1:=hm.pre.Aa rfl hf
   have a2:=hm.pre.Aj rfl (x:=y) (by omega)
   have b1:=hf.1
   have t:=a1.thn hc a2
   simp only
   rw [if_pos (by omega),Qe (by omega),Qe (by rw [e3];simp),Qe (by rw [e3];show 0≤f∧f<_;omega),Qe (by omega),Qe (by rw [e3];simp),Qe (by rw [e3];show 0≤y∧y<_;omega)]
   have q:kaR m i=ix (rx m.f.s.cs (ix m.f.ar f)) (ix m.j y):=by unfold kaR;rw [e3];rfl
   rw [q]
   rw [show ix (rx (klL m) i) 2=f by rw [e3];rfl,show ix (rx (klL m) i) 1=y by rw [e3];rfl,t.1]
   rfl
  refine Q3I m.f.ob.length (kaK m) (e:=tab m.f.ob.length (kaK m)) (by omega) (fun i hi=>?_) (by simp;try omega) ?_
  ·obtain ⟨o,_⟩:=memK i hi
   simp only
   rw [if_pos (by omega),Qe (by omega),Qe (by omega),Q87 (by omega)]
   rfl
  rw [Q6A hc]
  simp only [Option.bind_some]
  rw [Q43 ok kok.1 (by simp [Q2D];omega) (by simp;omega),Q43 kok.1 ok (by omega) (by simp;omega)]
  simp only [Option.bind_some]
  unfold Q24
  rw [Qe (by omega)]
  rfl
 ·rw [Q88 (by omega) fun x hx=>by rw [kl3 x hx];omega]
  simp only [Option.bind_some]
  refine Q3I m.f.s.fr.length (kaL m) (e:=tab m.f.s.fr.length (kaL m)) (by omega) (fun i hi=>?_) (by simp) ?_
  ·obtain ⟨⟨u,a⟩,d,q⟩:=memL i hi
   simp only
   rw [if_pos (by omega),Qe (by omega),Qe (by omega),Qe (by omega),(a.thn hc u).2]
   simp only [Option.bind_some]
   rw [e_key (by simp)]
   simp only [Option.bind_some]
   rw [Q5X hk q]
   rfl
  refine Q3I (klL m).length (kaR m) (e:=tab (klL m).length (kaR m)) (by omega) (fun i hi=>?_) (by simp) ?_
  ·obtain ⟨x,y,f,hx,hy,hf,e3⟩:=Q5K hi
   have a1:=hm.pre.Aa rfl hf
   have a2:=hm.pre.Aj rfl (x:=y) (by omega)
   have b1:=hf.1
   have t:=a1.thn hc a2
   have q:kaR m i=ix (rx m.f.s.cs (ix m.f.ar f)) (ix m.j y):=by unfold kaR;rw [e3];rfl
   simp only
   unfold QX
   rw [if_pos (by omega),Qe (by omega),Qe (by rw [e3];simp),Qe (by rw [e3];show 0≤f∧f<_;omega)]
   simp only [Option.bind_some]
   rw [Qe (by rw [e3];simp),Qe (by rw [e3];show 0≤y∧y<_;omega),q]
   rw [show ix (rx (klL m) i) 2=f by rw [e3];rfl,show ix (rx (klL m) i) 1=y by rw [e3];rfl,t.2]
   rfl
  refine Q3I m.f.ob.length (kaK m) (e:=tab m.f.ob.length (kaK m)) (by omega) (fun i hi=>?_) (by simp) ?_
  ·obtain ⟨o,q⟩:=memK i hi
   simp only
   rw [if_pos (by omega),Qe (by omega),Qe (by omega),e_key (by simp)]
   simp only [Option.bind_some]
   rw [Q5X hk q]
   rfl
  rw [Q6C (by omega) (by omega)]
  simp only [Option.bind_some]
  rw [Q2W ok kok.1 (by simp [iota];omega) (by simp;omega),Q2W kok.1 ok (by omega) (by simp;omega)]
  simp only [Option.bind_some]
  unfold Q2a Q1k Q2e
  rw [Q2W ok kok.1 (by simp [iota];omega) (by simp;omega),Q2W kok.1 ok (show m.f.ob.length≤1048576 by omega) (by simp;omega)]
  simp only [Option.bind_some]
  rw [Qe (by omega),Qe (by simp;omega)]
  rfl
 have e1:(kC m).size≤2000:=kok.2
 have e2:(iota m.f.s.n.toNat).length=m.f.s.n.toNat:=by simp [iota]
 refine ⟨⟨⟨ok,kok.1,by simp only [kaV];omega,by simp [kaV];omega⟩,⟨kok.1,ok,by simp only [kaV];omega,by simp [kaV];omega⟩,by simp only [kaV];omega,by simp [kaV];omega⟩,?_⟩
 simp only [Adj.size,Fn.size,kaV,Q99,e2]
 omega
end Go.Vc.T
