/- A part of the proof: a verified generator of conditions, and what each function of the program does. -/
import Derived.Test.YtfinipknacaojaaP9
set_option maxRecDepth 100000
set_option linter.unusedSimpArgs false
set_option linter.unusedVariables false

namespace Go.Vc.T
open Go Go.Vc Go.Proofs
noncomputable def s_i_Monad_kleisli (m_:Mnd):Option (Cat × List (List Int) × Bool) :=
 (s_i_Monad_kleisliArrows m_).bind fun v1 =>
 if (v1.length:Int) > 40 then
  some ((⟨0,[],[],[],[]⟩:Cat),[],false)
 else
  (s_i_places v1).bind fun v3 =>
  (
   some ():Option (Unit)).bind fun v5 =>
  (s_i_column v1 0).bind fun v6 =>
  (s_i_column v1 1).bind fun v7 =>
  (loopF (σ:=List Int × Int) (ε:=List Int) (fun s14 =>
   if s14.2<(m_.u.length:Int) then
    ass (0≤s14.2∧s14.2<(m_.u.length:Int)) <|
    (s_i_key [[s14.2,s14.2,ix m_.u s14.2]]).bind fun v17 =>
    ass ((s14.1++[(tfind v17 v3).getD 0]).length≤1073741824) <|
    ass (B64 (s14.2+1)) <|
    some (Ctl.next (s14.1++[(tfind v17 v3).getD 0],s14.2+1))
   else
    some (Ctl.ret s14.1)) fuel ([],0)).bind fun b8 =>
  (
   (s_i_Category_arrows (⟨m_.f.s.n,v6,v7,b8,[]⟩:Cat)).bind fun v21 =>
   ass (0≤v21∧v21≤1073741824) <|
   (loopF (σ:=List (List Int) × Int) (ε:=List (List Int)) (fun s52 =>
    if s52.2<((List.replicate v21.toNat ([]:List Int)).length:Int) then
     (
      ass (0≤v21∧v21≤1073741824) <|
      ass (0≤s52.2∧s52.2<(s52.1.length:Int)) <|
      ass (0≤s52.2∧s52.2<((s52.1.set s52.2.toNat (List.replicate v21.toNat 0)).length:Int)) <|
      (loopF (σ:=List (List Int) × Int) (ε:=List (List Int)) (fun s69 =>
       if s69.2<((rx (s52.1.set s52.2.toNat (List.replicate v21.toNat 0)) s52.2).length:Int) then
        (
         ass (0≤s52.2∧s52.2<(s69.1.length:Int)) <|
         ass (0≤s69.2∧s69.2<((rx s69.1 s52.2).length:Int)) <|
         ass (0≤s52.2∧s52.2<(v7.length:Int)) <|
         ass (0≤s69.2∧s69.2<(v6.length:Int)) <|
         if (ix v7 s52.2)=(ix v6 s69.2) then
          ass (0≤s52.2∧s52.2<((s69.1.set s52.2.toNat ((rx s69.1 s52.2).set s69.2.toNat (-1))).length:Int)) <|
          (s_i_Monad_kleisli_c1_v23_88_92 s52.2 s69.2 v1 v3 (⟨m_,m_.f.s,(m_.f.s,m_)⟩:XBinder)).bind fun v78 =>
          ass (0≤s69.2∧s69.2<((rx (s69.1.set s52.2.toNat ((rx s69.1 s52.2).set s69.2.toNat (-1))) s52.2).length:Int)) <|
          some ((s69.1.set s52.2.toNat ((rx s69.1 s52.2).set s69.2.toNat (-1))).set s52.2.toNat ((rx (s69.1.set s52.2.toNat ((rx s69.1 s52.2).set s69.2.toNat (-1))) s52.2).set s69.2.toNat v78))
         else
          some (s69.1.set s52.2.toNat ((rx s69.1 s52.2).set s69.2.toNat (-1))):Option (List (List Int))).bind fun b71 =>
        ass (B64 (s69.2+1)) <|
        some (Ctl.next (b71,s69.2+1))
       else
        some (Ctl.ret s69.1)) fuel (s52.1.set s52.2.toNat (List.replicate v21.toNat 0),0)).bind fun p69 =>
      some p69:Option (List (List Int))).bind fun b54 =>
     ass (B64 (s52.2+1)) <|
     some (Ctl.next (b54,s52.2+1))
    else
     some (Ctl.ret s52.1)) fuel (List.replicate v21.toNat ([]:List Int),0)).bind fun p52 =>
   some p52:Option (List (List Int))).bind fun v82 =>
  some ((⟨m_.f.s.n,v6,v7,b8,v82⟩:Cat),v1,true)
set_option maxHeartbeats 4000000 in
theorem w_i_Monad_kleisli (m_:Mnd) (r:Cat × List (List Int) × Bool) (h:s_i_Monad_kleisli m_=some r):Contract Try.prog 36 [.rptr (m_.cells true)] (.tup [.agg (r.1.cells true),.lst true 1 (Ls r.2.1),.val (.bool r.2.2)]):=by
 refine contract_introG (rvs:=[.cell 2 33,.tmp 3,.tmp 4]) (rs:=[.agg (r.1.cells true),.lst true 1 (Ls r.2.1),.val (.bool r.2.2)]) Try.func36 rfl rfl rfl rfl (by simp [Try.f36]) fun F hN hP=>?_
 unfold s_i_Monad_kleisli at h
 refine w_seq ?_
 refine runQ hN fun K hK=>?_
 simp [-guardE_b,-Is_at,-Is_at',-Ls_at,-Ls_at',eL,eI,allInts,eP_Cat,eP_Mnd,Cat.cells,Mnd.cells]
 repeat with_reducible refine sdQ ?_
 refine hK _ ?_
 clear hK K
 refine tn ?_
 refine w_weak (st':=⟨[(0,.rptr (Mnd.cells true m_)),(2,.adr 0 0 0)],[(0,.mix 5 [[.val (.int .i64 0),.val (.slice none 0 0),.val (.slice none 0 0),.val (.slice none 0 0),.val (.slice none 0 0)]])],1⟩) (Wk.r1 [(0,0)] (by simp [hP,hhOk,back,Cat.cells,Mnd.cells,UA,U1,IA,I1,LA,L1,BA,B1,EA,E1,E2,eB,eI,eL])) ?_
 refine w_seq ?_
 refine runQ hN fun K hK=>?_
 simp [-guardE_b,-Is_at,-Is_at',-Ls_at,-Ls_at',eL,eI,allInts,eP_Cat,eP_Mnd,Cat.cells,Mnd.cells]
 repeat with_reducible refine sdQ ?_
 replace h:=bind_some h
 obtain ⟨v1,hv1,h⟩:=h
 refine callA_intro (w_i_Monad_kleisliArrows _ v1 hv1) (.cons (.preT (by simp [Mnd.cells])) .nil) ?_
 simp [-guardE_b,-Is_at,-Is_at',-Ls_at,-Ls_at',unk,unA,unE,unT,unC,flat,eL,eI,allInts,eP_Cat,eP_Mnd,Cat.cells,Mnd.cells]
 repeat with_reducible refine sdQ ?_
 refine hK _ ?_
 clear hK K
 refine tn ?_
 refine w_weak (st':=⟨[(0,.rptr (Mnd.cells true m_)),(2,.adr 0 0 0),(5,.adr 1 0 0)],[(0,.mix 5 [[.val (.int .i64 0),.val (.slice none 0 0),.val (.slice none 0 0),.val (.slice none 0 0),.val (.slice none 0 0)]]),(1,.mix 1 [[.own 2 0 v1.length]]),(2,.row 1 (Ls v1))],3⟩) (Wk.r1 [(0,0),(2,1),(1,2)] (by simp [hP,hhOk,back,Cat.cells,Mnd.cells,UA,U1,IA,I1,LA,L1,BA,B1,EA,E1,E2,eB,eI,eL])) ?_
 refine w_seq ?_
 refine w_seq ?_
 refine runQ hN fun K hK=>?_
 simp [-guardE_b,-Is_at,-Is_at',-Ls_at,-Ls_at',eL,eI,allInts,eP_Cat,eP_Mnd,Cat.cells,Mnd.cells]
 repeat with_reducible refine sdQ ?_
 refine hK _ ?_
 clear hK K
 refine tn ?_
 refine w_weak (st':=⟨[(0,.rptr (Mnd.cells true m_)),(2,.adr 0 0 0),(5,.adr 1 0 0),(15,.val (.bool (decide ((v1.length:Int) > 40))))],[(0,.mix 5 [[.val (.int .i64 0),.val (.slice none 0 0),.val (.slice none 0 0),.val (.slice none 0 0),.val (.slice none 0 0)]]),(1,.mix 1 [[.own 2 0 v1.length]]),(2,.row 1 (Ls v1))],3⟩) (Wk.r1 [(0,0),(1,1),(2,2)] (by simp [hP,hhOk,back,Cat.cells,Mnd.cells,UA,U1,IA,I1,LA,L1,BA,B1,EA,E1,E2,eB,eI,eL])) ?_
 refine w_cond rfl (fun g=>?_) fun g=>?_
 ·have g2:(v1.length:Int) > 40:=by first|simpa using g|(simp at g;exact g)|(simp at g;omega)
  clear g
  replace h:=if_l g2 h
  refine w_seq ?_
  refine runQ hN fun K hK=>?_
  simp [-guardE_b,-Is_at,-Is_at',-Ls_at,-Ls_at',eL,eI,allInts,eP_Cat,eP_Mnd,Cat.cells,Mnd.cells]
  repeat with_reducible refine sdQ ?_
  refine hK _ ?_
  clear hK K
  refine tn ?_
  refine w_weak (st':=⟨[(2,.adr 0 0 0),(3,.val (.slice none 0 0)),(4,.val (.bool false))],[(0,.mix 5 [[.val (.int .i64 0),.val (.slice none 0 0),.val (.slice none 0 0),.val (.slice none 0 0),.val (.slice none 0 0)]])],1⟩) (Wk.r1 [(0,0)] (by simp [hP,hhOk,back,Cat.cells,Mnd.cells,UA,U1,IA,I1,LA,L1,BA,B1,EA,E1,E2,eB,eI,eL])) ?_
  refine w_ret ?_
  refine tr ?_
  have hr:=Option.some.inj h
  rw [← hr]
  refine ⟨_,(.cell tf_33 rfl rfl rfl (by simp) (by simp) (.tmp (.tmp .nil))),?_⟩
  refine ⟨(.agg rfl (.one rfl rfl (.one rfl rfl .nil))),[.val (.int .i64 0),.val (.slice none 0 0),.val (.slice none 0 0),.val (.slice none 0 0),.val (.slice none 0 0),.val (.slice none 0 0),.val (.bool false)],[],by simp [Cat.cells,Mnd.cells,UA,U1,IA,I1,LA,L1,BA,B1,EA,E1,E2,eB,eI,eL],by simp,(.cons .refl (.cons .nil (.cons .nil (.cons .nil (.cons .nil (.cons .nil (.cons .refl .nil)))))))⟩
 have g2:¬ ((v1.length:Int) > 40):=by first|simpa using g|(simp at g;exact g)|(simp at g;omega)
 clear g
 replace h:=if_r g2 h
 refine w_skip ?_
 refine tn ?_
 refine w_seq ?_
 refine w_runX [] mo (by rw [hN];decide) fun K hK=>?_
 simp [-guardE_b,-Is_at,-Is_at',-Ls_at,-Ls_at',eL,eI,allInts,eP_Cat,eP_Mnd,Cat.cells,Mnd.cells]
 repeat with_reducible refine sdQ ?_
 replace h:=bind_some h
 obtain ⟨v3,hv3,h⟩:=h
 refine callX_fro (fz:=[]) false (w_i_places _ v3 hv3) (PurK.ofL (.cons (.whole (by simp) (by simp) (by simp)) .nil)) ?_
 simp [-guardE_b,-Is_at,-Is_at',-Ls_at,-Ls_at',unk,unA,unE,unT,unC,flat,eL,eI,allInts,eP_Cat,eP_Mnd,Cat.cells,Mnd.cells]
 repeat with_reducible refine sdQ ?_
 refine hK _ ?_
 clear hK K
 refine tn ?_
 refine w_weak (st':=⟨[(0,.rptr (Mnd.cells true m_)),(2,.adr 0 0 0),(5,.adr 1 0 0),(6,.adr 3 0 0)],[(0,.mix 5 [[.val (.int .i64 0),.val (.slice none 0 0),.val (.slice none 0 0),.val (.slice none 0 0),.val (.slice none 0 0)]]),(1,.mix 1 [[.own 2 0 v1.length]]),(2,.row 1 (Ls v1)),(3,.mix 1 [[.cmap .str (Msi v3)]])],4⟩) (Wk.r1 [(0,0),(1,1),(2,2),(3,3)] (by simp [hP,hhOk,back,Cat.cells,Mnd.cells,UA,U1,IA,I1,LA,L1,BA,B1,EA,E1,E2,eB,eI,eL])) ?_
 refine w_seq ?_
 refine w_runXM [] mo (by rw [hN];decide) fun K hK=>?_
 simp [-guardE_b,-Is_at,-Is_at',-Ls_at,-Ls_at',eL,eI,allInts,eP_Cat,eP_Mnd,Cat.cells,Mnd.cells]
 repeat with_reducible refine sdQ ?_
 replace h:=bind_some h
 obtain ⟨v5,hv5,h⟩:=h
 refine callX_in (fz:=[]) (icon_introGW (rvs:=[.cell 2 92]) (e:={ v:=.agg [.rptr (Mnd.cells true m_),.rptr (Mnd.cells true m_),.fn 82 [.adr 5 0 0,.adr 6 0 0]],set:=[],del:=[],new:=[(4,.mix 3 [[.rptr (Mnd.cells true m_),.rptr (Mnd.cells true m_),.fn 82 [.adr 5 0 0,.adr 6 0 0]]]),(5,.mix 1 [[.rptr (Mnd.cells true m_)]]),(6,.mix 1 [[.rptr (Mnd.cells true m_)]])],cnt:=3 }) Try.func57 rfl rfl rfl (by simp [Try.f57]) (by simp) (fineI (by simp)) (newI (by rfl)) fun F hN hP=>?_) ?_
 ·clear h
  have h:=hv5
  clear hv5
  refine w_seq ?_
  refine w_runX [] mo (by rw [hN];decide) fun K hK=>?_
  simp [-guardE_b,-Is_at,-Is_at',-Ls_at,-Ls_at',eL,eI,allInts,eP_Cat,eP_Mnd,Cat.cells,Mnd.cells]
  repeat with_reducible refine sdQ ?_
  refine hK _ ?_
  clear hK K
  refine tn ?_
  refine w_weak (st':=⟨[(1,.adr 4 0 0),(2,.adr 5 0 0)],[(0,.mix 5 [[.val (.int .i64 0),.val (.slice none 0 0),.val (.slice none 0 0),.val (.slice none 0 0),.val (.slice none 0 0)]]),(1,.mix 1 [[.own 2 0 v1.length]]),(2,.row 1 (Ls v1)),(3,.mix 1 [[.cmap .str (Msi v3)]]),(4,.mix 1 [[.rptr (Mnd.cells true m_)]]),(5,.mix 3 [[.val (.pointer none),.val (.pointer none),.val (.nilFunc)]])],6⟩) (Wk.rP _ [(0,0),(1,1),(2,2),(3,3),(4,4),(5,5)] hP (by rfl) (by simp [hhOk,back,Cat.cells,Mnd.cells,UA,U1,IA,I1,LA,L1,BA,B1,EA,E1,E2,eB,eI,eL])) ?_
  refine w_seq ?_
  refine w_runX [] mo (by rw [hN];decide) fun K hK=>?_
  simp [-guardE_b,-Is_at,-Is_at',-Ls_at,-Ls_at',eL,eI,allInts,eP_Cat,eP_Mnd,Cat.cells,Mnd.cells]
  repeat with_reducible refine sdQ ?_
  refine hK _ ?_
  clear hK K
  refine tn ?_
  refine w_weak (st':=⟨[(1,.adr 4 0 0),(2,.adr 5 0 0),(3,.adr 6 0 0)],[(0,.mix 5 [[.val (.int .i64 0),.val (.slice none 0 0),.val (.slice none 0 0),.val (.slice none 0 0),.val (.slice none 0 0)]]),(1,.mix 1 [[.own 2 0 v1.length]]),(2,.row 1 (Ls v1)),(3,.mix 1 [[.cmap .str (Msi v3)]]),(4,.mix 1 [[.rptr (Mnd.cells true m_)]]),(5,.mix 3 [[.val (.pointer none),.val (.pointer none),.val (.nilFunc)]]),(6,.mix 1 [[.rptr (Mnd.cells true m_)]])],7⟩) (Wk.rP _ [(0,0),(1,1),(2,2),(3,3),(4,4),(5,5),(6,6)] hP (by rfl) (by simp [hhOk,back,Cat.cells,Mnd.cells,UA,U1,IA,I1,LA,L1,BA,B1,EA,E1,E2,eB,eI,eL])) ?_
  refine w_seq ?_
  refine w_runX [] mo (by rw [hN];decide) fun K hK=>?_
  simp [-guardE_b,-Is_at,-Is_at',-Ls_at,-Ls_at',eL,eI,allInts,eP_Cat,eP_Mnd,Cat.cells,Mnd.cells]
  repeat with_reducible refine sdQ ?_
  refine hK _ ?_
  clear hK K
  refine tn ?_
  refine w_weak (st':=⟨[(2,.adr 4 0 0)],[(0,.mix 5 [[.val (.int .i64 0),.val (.slice none 0 0),.val (.slice none 0 0),.val (.slice none 0 0),.val (.slice none 0 0)]]),(1,.mix 1 [[.own 2 0 v1.length]]),(2,.row 1 (Ls v1)),(3,.mix 1 [[.cmap .str (Msi v3)]]),(4,.mix 3 [[.rptr (Mnd.cells true m_),.rptr (Mnd.cells true m_),.fn 82 [.adr 5 0 0,.adr 6 0 0]]]),(5,.mix 1 [[.rptr (Mnd.cells true m_)]]),(6,.mix 1 [[.rptr (Mnd.cells true m_)]])],7⟩) (Wk.rP _ [(0,0),(1,1),(2,2),(3,3),(5,4),(6,5),(4,6)] hP (by rfl) (by simp [hhOk,back,Cat.cells,Mnd.cells,UA,U1,IA,I1,LA,L1,BA,B1,EA,E1,E2,eB,eI,eL])) ?_
  refine w_ret ?_
  cases h
  first|refine iwg_r (st':=⟨[(2,.adr 4 0 0)],[(0,.mix 5 [[.val (.int .i64 0),.val (.slice none 0 0),.val (.slice none 0 0),.val (.slice none 0 0),.val (.slice none 0 0)]]),(1,.mix 1 [[.own 2 0 v1.length]]),(2,.row 1 (Ls v1)),(3,.mix 1 [[.cmap .str (Msi v3)]]),(4,.mix 3 [[.rptr (Mnd.cells true m_),.rptr (Mnd.cells true m_),.fn 82 [.adr 5 0 0,.adr 6 0 0]]]),(5,.mix 1 [[.rptr (Mnd.cells true m_)]]),(6,.mix 1 [[.rptr (Mnd.cells true m_)]])],7⟩) ?_ ?_|refine iwg_n (st':=⟨[(2,.adr 4 0 0)],[(0,.mix 5 [[.val (.int .i64 0),.val (.slice none 0 0),.val (.slice none 0 0),.val (.slice none 0 0),.val (.slice none 0 0)]]),(1,.mix 1 [[.own 2 0 v1.length]]),(2,.row 1 (Ls v1)),(3,.mix 1 [[.cmap .str (Msi v3)]]),(4,.mix 3 [[.rptr (Mnd.cells true m_),.rptr (Mnd.cells true m_),.fn 82 [.adr 5 0 0,.adr 6 0 0]]]),(5,.mix 1 [[.rptr (Mnd.cells true m_)]]),(6,.mix 1 [[.rptr (Mnd.cells true m_)]])],7⟩) ?_ ?_
  ·exact Wk.rP _ [(0,0),(1,1),(2,2),(3,3),(4,4),(5,5),(6,6)] hP (by rfl) (by simp [hhOk,back,Cat.cells,Mnd.cells,UA,U1,IA,I1,LA,L1,BA,B1,EA,E1,E2,eB,eI,eL])
  exact ⟨⟨_,(.cell tf_92 rfl rfl rfl (by simp) (by simp) .nil),by simp [oneOrA,Cat.cells,Mnd.cells]⟩,by simp,by simp [Cat.cells,Mnd.cells]⟩
 simp [-guardE_b,-Is_at,-Is_at',-Ls_at,-Ls_at',unk,unA,unE,unT,unC,flat,eL,eI,allInts,eP_Cat,eP_Mnd,Cat.cells,Mnd.cells]
 repeat with_reducible refine sdQ ?_
 refine hK _ ?_
 clear hK K
 refine tn ?_
 refine w_weak (st':=⟨[(0,.rptr (Mnd.cells true m_)),(2,.adr 0 0 0),(5,.adr 1 0 0),(6,.adr 3 0 0),(7,.adr 4 0 0)],[(0,.mix 5 [[.val (.int .i64 0),.val (.slice none 0 0),.val (.slice none 0 0),.val (.slice none 0 0),.val (.slice none 0 0)]]),(1,.mix 1 [[.own 2 0 v1.length]]),(2,.row 1 (Ls v1)),(3,.mix 1 [[.cmap .str (Msi v3)]]),(4,.mix 3 [[.rptr (Mnd.cells true m_),.rptr (Mnd.cells true m_),.fn 82 [.adr 5 0 0,.adr 6 0 0]]]),(5,.mix 1 [[.rptr (Mnd.cells true m_)]]),(6,.mix 1 [[.rptr (Mnd.cells true m_)]])],7⟩) (Wk.r1 [(0,0),(1,1),(2,2),(3,3),(7,4),(5,5),(6,6)] (by simp [hP,hhOk,back,Cat.cells,Mnd.cells,UA,U1,IA,I1,LA,L1,BA,B1,EA,E1,E2,eB,eI,eL])) ?_
 refine w_seq ?_
 refine runQ hN fun K hK=>?_
 simp [-guardE_b,-Is_at,-Is_at',-Ls_at,-Ls_at',eL,eI,allInts,eP_Cat,eP_Mnd,Cat.cells,Mnd.cells]
 repeat with_reducible refine sdQ ?_
 replace h:=bind_some h
 obtain ⟨v6,hv6,h⟩:=h
 refine callA_intro (w_i_column _ _ v6 hv6) (.cons (.whole (by simp) (by simp) (by simp)) (.cons .val .nil)) ?_
 simp [-guardE_b,-Is_at,-Is_at',-Ls_at,-Ls_at',unk,unA,unE,unT,unC,flat,eL,eI,allInts,eP_Cat,eP_Mnd,Cat.cells,Mnd.cells]
 repeat with_reducible refine sdQ ?_
 replace h:=bind_some h
 obtain ⟨v7,hv7,h⟩:=h
 refine callA_intro (w_i_column _ _ v7 hv7) (.cons (.whole (by simp) (by simp) (by simp)) (.cons .val .nil)) ?_
 simp [-guardE_b,-Is_at,-Is_at',-Ls_at,-Ls_at',unk,unA,unE,unT,unC,flat,eL,eI,allInts,eP_Cat,eP_Mnd,Cat.cells,Mnd.cells]
 repeat with_reducible refine sdQ ?_
 refine hK _ ?_
 clear hK K
 refine tn ?_
 refine w_weak (st':=⟨[(0,.rptr (Mnd.cells true m_)),(2,.adr 0 0 0),(5,.adr 1 0 0),(6,.adr 3 0 0),(7,.adr 4 0 0),(8,.adr 7 0 0)],[(0,.mix 5 [[.val (.int .i64 0),.val (.slice none 0 0),.val (.slice none 0 0),.val (.slice none 0 0),.val (.slice none 0 0)]]),(1,.mix 1 [[.own 2 0 v1.length]]),(2,.row 1 (Ls v1)),(3,.mix 1 [[.cmap .str (Msi v3)]]),(4,.mix 3 [[.rptr (Mnd.cells true m_),.rptr (Mnd.cells true m_),.fn 82 [.adr 5 0 0,.adr 6 0 0]]]),(5,.mix 1 [[.rptr (Mnd.cells true m_)]]),(6,.mix 1 [[.rptr (Mnd.cells true m_)]]),(7,.mix 5 [[.val (.int .i64 m_.f.s.n),.own 8 0 v6.length,.own 9 0 v7.length,.val (.slice none 0 0),.val (.slice none 0 0)]]),(8,.row 1 (Is v6)),(9,.row 1 (Is v7))],10⟩) (Wk.r1 [(0,0),(1,1),(2,2),(3,3),(4,4),(5,5),(6,6),(9,7),(7,8),(8,9)] (by simp [hP,hhOk,back,Cat.cells,Mnd.cells,UA,U1,IA,I1,LA,L1,BA,B1,EA,E1,E2,eB,eI,eL])) ?_
 refine w_seq ?_
 refine w_seq ?_
 refine runQ hN fun K hK=>?_
 simp [-guardE_b,-Is_at,-Is_at',-Ls_at,-Ls_at',eL,eI,allInts,eP_Cat,eP_Mnd,Cat.cells,Mnd.cells]
 repeat with_reducible refine sdQ ?_
 refine hK _ ?_
 clear hK K
 refine tn ?_
 refine w_weak (st':=⟨[(2,.adr 0 0 0),(5,.adr 1 0 0),(6,.adr 3 0 0),(7,.adr 4 0 0),(8,.adr 7 0 0),(34,.lst true 1 (Is m_.u)),(35,.val (.int .i64 (m_.u.length:Int))),(36,.val (.int .i64 0))],[(0,.mix 5 [[.val (.int .i64 0),.val (.slice none 0 0),.val (.slice none 0 0),.val (.slice none 0 0),.val (.slice none 0 0)]]),(1,.mix 1 [[.own 2 0 v1.length]]),(2,.row 1 (Ls v1)),(3,.mix 1 [[.cmap .str (Msi v3)]]),(4,.mix 3 [[.rptr (Mnd.cells true m_),.rptr (Mnd.cells true m_),.fn 82 [.adr 5 0 0,.adr 6 0 0]]]),(5,.mix 1 [[.rptr (Mnd.cells true m_)]]),(6,.mix 1 [[.rptr (Mnd.cells true m_)]]),(7,.mix 5 [[.val (.int .i64 m_.f.s.n),.own 8 0 v6.length,.own 9 0 v7.length,.val (.slice none 0 0),.val (.slice none 0 0)]]),(8,.row 1 (Is v6)),(9,.row 1 (Is v7))],10⟩) (Wk.r1 [(0,0),(1,1),(2,2),(3,3),(4,4),(5,5),(6,6),(7,7),(8,8),(9,9)] (by simp [hP,hhOk,back,Cat.cells,Mnd.cells,UA,U1,IA,I1,LA,L1,BA,B1,EA,E1,E2,eB,eI,eL])) ?_
 replace h:=bind_some h
 obtain ⟨e8,h,h8⟩:=h
 refine w_joinT (fun b8:List Int=>⟨[(2,.adr 0 0 0),(5,.adr 1 0 0),(6,.adr 3 0 0),(7,.adr 4 0 0),(8,.adr 7 0 0)],[(0,.mix 5 [[.val (.int .i64 0),.val (.slice none 0 0),.val (.slice none 0 0),.val (.slice none 0 0),.val (.slice none 0 0)]]),(1,.mix 1 [[.own 2 0 v1.length]]),(2,.row 1 (Ls v1)),(3,.mix 1 [[.cmap .str (Msi v3)]]),(4,.mix 3 [[.rptr (Mnd.cells true m_),.rptr (Mnd.cells true m_),.fn 82 [.adr 5 0 0,.adr 6 0 0]]]),(5,.mix 1 [[.rptr (Mnd.cells true m_)]]),(6,.mix 1 [[.rptr (Mnd.cells true m_)]]),(7,.mix 5 [[.val (.int .i64 m_.f.s.n),.own 8 0 v6.length,.own 9 0 v7.length,.own 10 0 b8.length,.val (.slice none 0 0)]]),(8,.row 1 (Is v6)),(9,.row 1 (Is v7)),(10,.row 1 (Is b8))],11⟩) (fun b8=>b8=e8) ?_ ?_
 ·refine w_block ?_
  refine w_loopF h (fun s14:List Int × Int=>⟨[(2,.adr 0 0 0),(5,.adr 1 0 0),(6,.adr 3 0 0),(7,.adr 4 0 0),(8,.adr 7 0 0),(34,.lst true 1 (Is m_.u)),(35,.val (.int .i64 (m_.u.length:Int))),(36,.val (.int .i64 s14.2))],[(0,.mix 5 [[.val (.int .i64 0),.val (.slice none 0 0),.val (.slice none 0 0),.val (.slice none 0 0),.val (.slice none 0 0)]]),(1,.mix 1 [[.own 2 0 v1.length]]),(2,.row 1 (Ls v1)),(3,.mix 1 [[.cmap .str (Msi v3)]]),(4,.mix 3 [[.rptr (Mnd.cells true m_),.rptr (Mnd.cells true m_),.fn 82 [.adr 5 0 0,.adr 6 0 0]]]),(5,.mix 1 [[.rptr (Mnd.cells true m_)]]),(6,.mix 1 [[.rptr (Mnd.cells true m_)]]),(7,.mix 5 [[.val (.int .i64 m_.f.s.n),.own 8 0 v6.length,.own 9 0 v7.length,.own 10 0 s14.1.length,.val (.slice none 0 0)]]),(8,.row 1 (Is v6)),(9,.row 1 (Is v7)),(10,.row 1 (Is s14.1))],11⟩) (wk_tr ⟨[(2,.adr 0 0 0),(5,.adr 1 0 0),(6,.adr 3 0 0),(7,.adr 4 0 0),(8,.adr 7 0 0),(34,.lst true 1 (Is m_.u)),(35,.val (.int .i64 (m_.u.length:Int))),(36,.val (.int .i64 0))],[(0,.mix 5 [[.val (.int .i64 0),.val (.slice none 0 0),.val (.slice none 0 0),.val (.slice none 0 0),.val (.slice none 0 0)]]),(1,.mix 1 [[.own 2 0 v1.length]]),(2,.row 1 (Ls v1)),(3,.mix 1 [[.cmap .str (Msi v3)]]),(4,.mix 3 [[.rptr (Mnd.cells true m_),.rptr (Mnd.cells true m_),.fn 82 [.adr 5 0 0,.adr 6 0 0]]]),(5,.mix 1 [[.rptr (Mnd.cells true m_)]]),(6,.mix 1 [[.rptr (Mnd.cells true m_)]]),(7,.mix 5 [[.val (.int .i64 m_.f.s.n),.own 8 0 v6.length,.own 9 0 v7.length,.own 10 0 0,.val (.slice none 0 0)]]),(8,.row 1 (Is v6)),(9,.row 1 (Is v7)),(10,.row 1 (Is []))],11⟩ (Wk.nils [(10,1)] (by simp) (by simp) (by simp [nlA]) (by simp [entN,nlL,nlA,Cat.cells,Mnd.cells,UA,U1,IA,I1,LA,L1,BA,B1,EA,E1,E2,eB,eI,eL]) (by simp)) (Wk.r1 [(0,0),(1,1),(2,2),(3,3),(4,4),(5,5),(6,6),(7,7),(8,8),(9,9),(10,10)] (by simp [hP,hhOk,back,Cat.cells,Mnd.cells,UA,U1,IA,I1,LA,L1,BA,B1,EA,E1,E2,eB,eI,eL]))) ?_
  clear h
  intro k14 s14 c14 h hk14
  refine w_seq ?_
  refine runQ hN fun K hK=>?_
  simp [-guardE_b,-Is_at,-Is_at',-Ls_at,-Ls_at',eL,eI,allInts,eP_Cat,eP_Mnd,Cat.cells,Mnd.cells]
  repeat with_reducible refine sdQ ?_
  refine hK _ ?_
  clear hK K
  refine tn ?_
  refine w_weak (st':=⟨[(2,.adr 0 0 0),(5,.adr 1 0 0),(6,.adr 3 0 0),(7,.adr 4 0 0),(8,.adr 7 0 0),(34,.lst true 1 (Is m_.u)),(35,.val (.int .i64 (m_.u.length:Int))),(36,.val (.int .i64 s14.2)),(37,.val (.bool (decide (s14.2<(m_.u.length:Int)))))],[(0,.mix 5 [[.val (.int .i64 0),.val (.slice none 0 0),.val (.slice none 0 0),.val (.slice none 0 0),.val (.slice none 0 0)]]),(1,.mix 1 [[.own 2 0 v1.length]]),(2,.row 1 (Ls v1)),(3,.mix 1 [[.cmap .str (Msi v3)]]),(4,.mix 3 [[.rptr (Mnd.cells true m_),.rptr (Mnd.cells true m_),.fn 82 [.adr 5 0 0,.adr 6 0 0]]]),(5,.mix 1 [[.rptr (Mnd.cells true m_)]]),(6,.mix 1 [[.rptr (Mnd.cells true m_)]]),(7,.mix 5 [[.val (.int .i64 m_.f.s.n),.own 8 0 v6.length,.own 9 0 v7.length,.own 10 0 s14.1.length,.val (.slice none 0 0)]]),(8,.row 1 (Is v6)),(9,.row 1 (Is v7)),(10,.row 1 (Is s14.1))],11⟩) (Wk.r1 [(0,0),(1,1),(2,2),(3,3),(4,4),(5,5),(6,6),(7,7),(8,8),(9,9),(10,10)] (by simp [hP,hhOk,back,Cat.cells,Mnd.cells,UA,U1,IA,I1,LA,L1,BA,B1,EA,E1,E2,eB,eI,eL])) ?_
  refine w_seq ?_
  refine w_cond rfl (fun g=>?_) fun g=>?_
  ·have g15:s14.2<(m_.u.length:Int):=by first|simpa using g|(simp at g;exact g)|(simp at g;omega)
   clear g
   replace h:=if_l g15 h
   refine w_skip ?_
   refine tn ?_
   refine w_seq ?_
   refine w_block ?_
   refine w_seq ?_
   refine runQ hN fun K hK=>?_
   replace h:=ass_some h
   obtain ⟨a16,h⟩:=h
   simp [-guardE_b,-Is_at,-Is_at',-Ls_at,-Ls_at',eL,eI,allInts,eP_Cat,eP_Mnd,Cat.cells,Mnd.cells,at_I a16]
   repeat with_reducible refine sdQ ?_
   refine hK _ ?_
   clear hK K
   refine tn ?_
   refine w_weak (st':=⟨[(2,.adr 0 0 0),(5,.adr 1 0 0),(6,.adr 3 0 0),(7,.adr 4 0 0),(8,.adr 7 0 0),(9,.val (.int .i64 s14.2)),(10,.val (.int .i64 (ix m_.u s14.2))),(34,.lst true 1 (Is m_.u)),(35,.val (.int .i64 (m_.u.length:Int))),(36,.val (.int .i64 s14.2))],[(0,.mix 5 [[.val (.int .i64 0),.val (.slice none 0 0),.val (.slice none 0 0),.val (.slice none 0 0),.val (.slice none 0 0)]]),(1,.mix 1 [[.own 2 0 v1.length]]),(2,.row 1 (Ls v1)),(3,.mix 1 [[.cmap .str (Msi v3)]]),(4,.mix 3 [[.rptr (Mnd.cells true m_),.rptr (Mnd.cells true m_),.fn 82 [.adr 5 0 0,.adr 6 0 0]]]),(5,.mix 1 [[.rptr (Mnd.cells true m_)]]),(6,.mix 1 [[.rptr (Mnd.cells true m_)]]),(7,.mix 5 [[.val (.int .i64 m_.f.s.n),.own 8 0 v6.length,.own 9 0 v7.length,.own 10 0 s14.1.length,.val (.slice none 0 0)]]),(8,.row 1 (Is v6)),(9,.row 1 (Is v7)),(10,.row 1 (Is s14.1))],11⟩) (Wk.r1 [(0,0),(1,1),(2,2),(3,3),(4,4),(5,5),(6,6),(7,7),(8,8),(9,9),(10,10)] (by simp [hP,hhOk,back,Cat.cells,Mnd.cells,UA,U1,IA,I1,LA,L1,BA,B1,EA,E1,E2,eB,eI,eL])) ?_
   refine w_runX [] mo (by rw [hN];decide) fun K hK=>?_
   simp [-guardE_b,-Is_at,-Is_at',-Ls_at,-Ls_at',eL,eI,allInts,eP_Cat,eP_Mnd,Cat.cells,Mnd.cells]
   repeat with_reducible refine sdQ ?_
   replace h:=bind_some h
   obtain ⟨v17,hv17,h⟩:=h
   refine callX_intro (fz:=[]) (w_i_key _ v17 hv17) (.cons (.lits (es:=_) rfl (.cons rfl (.cons (.lits (es:=_) rfl (.cons rfl (.cons .val .nil) (.cons rfl (.cons .val .nil) (.cons rfl (.cons .val .nil) .nil))) rfl) .nil) .nil) rfl) .nil) ?_
   replace h:=ass_some h
   obtain ⟨a18,h⟩:=h
   try simp only [List.length_append,List.length_cons,List.length_nil] at a18
   simp [-guardE_b,-Is_at,-Is_at',-Ls_at,-Ls_at',unk,unA,unE,unT,unC,flat,eL,eI,allInts,eP_Cat,eP_Mnd,Cat.cells,Mnd.cells,a18]
   repeat with_reducible refine sdQ ?_
   refine hK _ ?_
   clear hK K
   refine bn ?_
   refine tn ?_
   refine w_weak (st':=⟨[(2,.adr 0 0 0),(5,.adr 1 0 0),(6,.adr 3 0 0),(7,.adr 4 0 0),(8,.adr 7 0 0),(34,.lst true 1 (Is m_.u)),(35,.val (.int .i64 (m_.u.length:Int))),(36,.val (.int .i64 s14.2))],[(0,.mix 5 [[.val (.int .i64 0),.val (.slice none 0 0),.val (.slice none 0 0),.val (.slice none 0 0),.val (.slice none 0 0)]]),(1,.mix 1 [[.own 2 0 v1.length]]),(2,.row 1 (Ls v1)),(3,.mix 1 [[.cmap .str (Msi v3)]]),(4,.mix 3 [[.rptr (Mnd.cells true m_),.rptr (Mnd.cells true m_),.fn 82 [.adr 5 0 0,.adr 6 0 0]]]),(5,.mix 1 [[.rptr (Mnd.cells true m_)]]),(6,.mix 1 [[.rptr (Mnd.cells true m_)]]),(7,.mix 5 [[.val (.int .i64 m_.f.s.n),.own 8 0 v6.length,.own 9 0 v7.length,.own 10 0 ((s14.1++[(tfind v17 v3).getD 0]).length),.val (.slice none 0 0)]]),(8,.row 1 (Is v6)),(9,.row 1 (Is v7)),(10,.row 1 (Is (s14.1++[(tfind v17 v3).getD 0])))],11⟩) (Wk.r1 [(0,0),(1,1),(2,2),(3,3),(4,4),(5,5),(6,6),(7,7),(8,8),(9,9),(15,10)] (by simp [hP,hhOk,back,Cat.cells,Mnd.cells,UA,U1,IA,I1,LA,L1,BA,B1,EA,E1,E2,eB,eI,eL])) ?_
   refine runQ hN fun K hK=>?_
   replace h:=ass_some h
   obtain ⟨a19,h⟩:=h
   simp [-guardE_b,-Is_at,-Is_at',-Ls_at,-Ls_at',eL,eI,allInts,eP_Cat,eP_Mnd,Cat.cells,Mnd.cells,wrap_id a19]
   repeat with_reducible refine sdQ ?_
   refine hK _ ?_
   clear hK K
   cases h
   exact rn (s':=(s14.1++[(tfind v17 v3).getD 0],s14.2+1)) hk14 (Wk.r1 [(0,0),(1,1),(2,2),(3,3),(4,4),(5,5),(6,6),(7,7),(8,8),(9,9),(10,10)] (by simp [hP,hhOk,back,Cat.cells,Mnd.cells,UA,U1,IA,I1,LA,L1,BA,B1,EA,E1,E2,eB,eI,eL]))
  have g15:¬ (s14.2<(m_.u.length:Int)):=by first|simpa using g|(simp at g;exact g)|(simp at g;omega)
  clear g
  replace h:=if_r g15 h
  refine w_exit ?_
  refine tx ?_
  refine lx ?_
  refine bh ?_
  cases h
  exact jn (b:=s14.1) hk14 (Wk.r1 [(0,0),(1,1),(2,2),(3,3),(4,4),(5,5),(6,6),(7,7),(8,8),(9,9),(10,10)] (by simp [hP,hhOk,back,Cat.cells,Mnd.cells,UA,U1,IA,I1,LA,L1,BA,B1,EA,E1,E2,eB,eI,eL]))
 intro b8 hb8
 have h:=h8
 rw [← hb8] at h
 clear h8
 try dsimp only at h
 refine w_seq ?_
 refine w_runXM [] mo (by rw [hN];decide) fun K hK=>?_
 simp [-guardE_b,-Is_at,-Is_at',-Ls_at,-Ls_at',eL,eI,allInts,eP_Cat,eP_Mnd,Cat.cells,Mnd.cells]
 repeat with_reducible refine sdQ ?_
 replace h:=bind_some h
 obtain ⟨v82,hv82,h⟩:=h
 refine callX_in (fz:=[]) (icon_introW (ts:=[]) (e:={ v:=.tup [],set:=[(7,.mix 5 [[.val (.int .i64 m_.f.s.n),.own 8 0 v6.length,.own 9 0 v7.length,.own 10 0 b8.length,.own 11 0 v82.length]])],del:=[],new:=[(11,.row 1 (Ls v82))],cnt:=1 }) Try.func60 rfl rfl rfl (by simp [Try.f60]) (by simp) (fineI (by simp)) (newI (by rfl)) fun F hN hP=>?_) ?_
 ·clear h
  have h:=hv82
  clear hv82
  refine w_seq ?_
  refine w_runX [] mo (by rw [hN];decide) fun K hK=>?_
  simp [-guardE_b,-Is_at,-Is_at',-Ls_at,-Ls_at',eL,eI,allInts,eP_Cat,eP_Mnd,Cat.cells,Mnd.cells]
  repeat with_reducible refine sdQ ?_
  replace h:=bind_some h
  obtain ⟨v21,hv21,h⟩:=h
  refine callX_intro (fz:=[]) (w_i_Category_arrows _ v21 hv21) (.cons (.field rfl (by simp [Cat.cells,Mnd.cells]) (.cons .val (.cons (.whole (by simp) (by simp) (by simp)) (.cons (.whole (by simp) (by simp) (by simp)) (.cons (.whole (by simp) (by simp) (by simp)) (.cons .nil .nil)))))) .nil) ?_
  simp [-guardE_b,-Is_at,-Is_at',-Ls_at,-Ls_at',unk,unA,unE,unT,unC,flat,eL,eI,allInts,eP_Cat,eP_Mnd,Cat.cells,Mnd.cells]
  repeat with_reducible refine sdQ ?_
  refine hK _ ?_
  clear hK K
  refine tn ?_
  refine w_weak (st':=⟨[(0,.adr 7 0 0),(1,.fn 61 [.adr 1 0 0,.adr 3 0 0,.adr 4 0 0]),(4,.val (.int .i64 v21))],[(0,.mix 5 [[.val (.int .i64 0),.val (.slice none 0 0),.val (.slice none 0 0),.val (.slice none 0 0),.val (.slice none 0 0)]]),(1,.mix 1 [[.own 2 0 v1.length]]),(2,.row 1 (Ls v1)),(3,.mix 1 [[.cmap .str (Msi v3)]]),(4,.mix 3 [[.rptr (Mnd.cells true m_),.rptr (Mnd.cells true m_),.fn 82 [.adr 5 0 0,.adr 6 0 0]]]),(5,.mix 1 [[.rptr (Mnd.cells true m_)]]),(6,.mix 1 [[.rptr (Mnd.cells true m_)]]),(7,.mix 5 [[.val (.int .i64 m_.f.s.n),.own 8 0 v6.length,.own 9 0 v7.length,.own 10 0 b8.length,.val (.slice none 0 0)]]),(8,.row 1 (Is v6)),(9,.row 1 (Is v7)),(10,.row 1 (Is b8))],11⟩) (Wk.rP _ [(0,0),(1,1),(2,2),(3,3),(4,4),(5,5),(6,6),(7,7),(8,8),(9,9),(10,10)] hP (by rfl) (by simp [hhOk,back,Cat.cells,Mnd.cells,UA,U1,IA,I1,LA,L1,BA,B1,EA,E1,E2,eB,eI,eL])) ?_
  refine w_seq ?_
  refine w_runX [11] mo (by rw [hN];decide) fun K hK=>?_
  replace h:=ass_some h
  obtain ⟨a22,h⟩:=h
  simp [-guardE_b,-Is_at,-Is_at',-Ls_at,-Ls_at',eL,eI,allInts,eP_Cat,eP_Mnd,Cat.cells,Mnd.cells]
  repeat with_reducible refine sdQ ?_
  refine hK _ ?_
  clear hK K
  refine tn ?_
  refine w_weak (st':=⟨[(0,.adr 7 0 0),(1,.fn 61 [.adr 1 0 0,.adr 3 0 0,.adr 4 0 0]),(4,.val (.int .i64 v21))],[(0,.mix 5 [[.val (.int .i64 0),.val (.slice none 0 0),.val (.slice none 0 0),.val (.slice none 0 0),.val (.slice none 0 0)]]),(1,.mix 1 [[.own 2 0 v1.length]]),(2,.row 1 (Ls v1)),(3,.mix 1 [[.cmap .str (Msi v3)]]),(4,.mix 3 [[.rptr (Mnd.cells true m_),.rptr (Mnd.cells true m_),.fn 82 [.adr 5 0 0,.adr 6 0 0]]]),(5,.mix 1 [[.rptr (Mnd.cells true m_)]]),(6,.mix 1 [[.rptr (Mnd.cells true m_)]]),(7,.mix 5 [[.val (.int .i64 m_.f.s.n),.own 8 0 v6.length,.own 9 0 v7.length,.own 10 0 b8.length,.own 11 0 ((List.replicate v21.toNat ([]:List Int)).length)]]),(8,.row 1 (Is v6)),(9,.row 1 (Is v7)),(10,.row 1 (Is b8)),(11,.row 1 (Ls (List.replicate v21.toNat ([]:List Int))))],12⟩) (Wk.rP _ [(0,0),(1,1),(2,2),(3,3),(4,4),(5,5),(6,6),(7,7),(8,8),(9,9),(10,10),(11,11)] hP (by rfl) (by simp [hhOk,back,Cat.cells,Mnd.cells,UA,U1,IA,I1,LA,L1,BA,B1,EA,E1,E2,eB,eI,eL])) ?_
  refine w_seq ?_
  refine w_runX [] mo (by rw [hN];decide) fun K hK=>?_
  simp [-guardE_b,-Is_at,-Is_at',-Ls_at,-Ls_at',eL,eI,allInts,eP_Cat,eP_Mnd,Cat.cells,Mnd.cells]
  repeat with_reducible refine sdQ ?_
  refine hK _ ?_
  clear hK K
  refine tn ?_
  refine w_weak (st':=⟨[(0,.adr 7 0 0),(1,.fn 61 [.adr 1 0 0,.adr 3 0 0,.adr 4 0 0]),(4,.val (.int .i64 v21)),(18,.val (.int .i64 ((List.replicate v21.toNat ([]:List Int)).length:Int))),(19,.val (.int .i64 0))],[(0,.mix 5 [[.val (.int .i64 0),.val (.slice none 0 0),.val (.slice none 0 0),.val (.slice none 0 0),.val (.slice none 0 0)]]),(1,.mix 1 [[.own 2 0 v1.length]]),(2,.row 1 (Ls v1)),(3,.mix 1 [[.cmap .str (Msi v3)]]),(4,.mix 3 [[.rptr (Mnd.cells true m_),.rptr (Mnd.cells true m_),.fn 82 [.adr 5 0 0,.adr 6 0 0]]]),(5,.mix 1 [[.rptr (Mnd.cells true m_)]]),(6,.mix 1 [[.rptr (Mnd.cells true m_)]]),(7,.mix 5 [[.val (.int .i64 m_.f.s.n),.own 8 0 v6.length,.own 9 0 v7.length,.own 10 0 b8.length,.own 11 0 ((List.replicate v21.toNat ([]:List Int)).length)]]),(8,.row 1 (Is v6)),(9,.row 1 (Is v7)),(10,.row 1 (Is b8)),(11,.row 1 (Ls (List.replicate v21.toNat ([]:List Int))))],12⟩) (Wk.rP _ [(0,0),(1,1),(2,2),(3,3),(4,4),(5,5),(6,6),(7,7),(8,8),(9,9),(10,10),(11,11)] hP (by rfl) (by simp [hhOk,back,Cat.cells,Mnd.cells,UA,U1,IA,I1,LA,L1,BA,B1,EA,E1,E2,eB,eI,eL])) ?_
  refine w_block ?_
  replace h:=bind_some h
  obtain ⟨e52,he52,h52⟩:=h
  refine w_loopF he52 (fun s52:List (List Int) × Int=>⟨[(0,.adr 7 0 0),(1,.fn 61 [.adr 1 0 0,.adr 3 0 0,.adr 4 0 0]),(4,.val (.int .i64 v21)),(18,.val (.int .i64 ((List.replicate v21.toNat ([]:List Int)).length:Int))),(19,.val (.int .i64 s52.2))],[(0,.mix 5 [[.val (.int .i64 0),.val (.slice none 0 0),.val (.slice none 0 0),.val (.slice none 0 0),.val (.slice none 0 0)]]),(1,.mix 1 [[.own 2 0 v1.length]]),(2,.row 1 (Ls v1)),(3,.mix 1 [[.cmap .str (Msi v3)]]),(4,.mix 3 [[.rptr (Mnd.cells true m_),.rptr (Mnd.cells true m_),.fn 82 [.adr 5 0 0,.adr 6 0 0]]]),(5,.mix 1 [[.rptr (Mnd.cells true m_)]]),(6,.mix 1 [[.rptr (Mnd.cells true m_)]]),(7,.mix 5 [[.val (.int .i64 m_.f.s.n),.own 8 0 v6.length,.own 9 0 v7.length,.own 10 0 b8.length,.own 11 0 s52.1.length]]),(8,.row 1 (Is v6)),(9,.row 1 (Is v7)),(10,.row 1 (Is b8)),(11,.row 1 (Ls s52.1))],12⟩) (Wk.rP _ [(0,0),(1,1),(2,2),(3,3),(4,4),(5,5),(6,6),(7,7),(8,8),(9,9),(10,10),(11,11)] hP (by rfl) (by simp [hhOk,back,Cat.cells,Mnd.cells,UA,U1,IA,I1,LA,L1,BA,B1,EA,E1,E2,eB,eI,eL])) ?_
  intro k52 s52 c52 h hk52
  refine w_seq ?_
  refine w_runX [] mo (by rw [hN];decide) fun K hK=>?_
  simp [-guardE_b,-Is_at,-Is_at',-Ls_at,-Ls_at',eL,eI,allInts,eP_Cat,eP_Mnd,Cat.cells,Mnd.cells]
  repeat with_reducible refine sdQ ?_
  refine hK _ ?_
  clear hK K
  refine tn ?_
  refine w_weak (st':=⟨[(0,.adr 7 0 0),(1,.fn 61 [.adr 1 0 0,.adr 3 0 0,.adr 4 0 0]),(4,.val (.int .i64 v21)),(18,.val (.int .i64 ((List.replicate v21.toNat ([]:List Int)).length:Int))),(19,.val (.int .i64 s52.2)),(20,.val (.bool (decide (s52.2<((List.replicate v21.toNat ([]:List Int)).length:Int)))))],[(0,.mix 5 [[.val (.int .i64 0),.val (.slice none 0 0),.val (.slice none 0 0),.val (.slice none 0 0),.val (.slice none 0 0)]]),(1,.mix 1 [[.own 2 0 v1.length]]),(2,.row 1 (Ls v1)),(3,.mix 1 [[.cmap .str (Msi v3)]]),(4,.mix 3 [[.rptr (Mnd.cells true m_),.rptr (Mnd.cells true m_),.fn 82 [.adr 5 0 0,.adr 6 0 0]]]),(5,.mix 1 [[.rptr (Mnd.cells true m_)]]),(6,.mix 1 [[.rptr (Mnd.cells true m_)]]),(7,.mix 5 [[.val (.int .i64 m_.f.s.n),.own 8 0 v6.length,.own 9 0 v7.length,.own 10 0 b8.length,.own 11 0 s52.1.length]]),(8,.row 1 (Is v6)),(9,.row 1 (Is v7)),(10,.row 1 (Is b8)),(11,.row 1 (Ls s52.1))],12⟩) (Wk.rP _ [(0,0),(1,1),(2,2),(3,3),(4,4),(5,5),(6,6),(7,7),(8,8),(9,9),(10,10),(11,11)] hP (by rfl) (by simp [hhOk,back,Cat.cells,Mnd.cells,UA,U1,IA,I1,LA,L1,BA,B1,EA,E1,E2,eB,eI,eL])) ?_
  refine w_seq ?_
  refine w_cond rfl (fun g=>?_) fun g=>?_
  ·have g53:s52.2<((List.replicate v21.toNat ([]:List Int)).length:Int):=by first|simpa using g|(simp at g;exact g)|(simp at g;omega)
   clear g
   replace h:=if_l g53 h
   refine w_skip ?_
   refine tn ?_
   refine w_seq ?_
   replace h:=bind_some h
   obtain ⟨e54,h,h54⟩:=h
   refine w_joinT (fun b54:List (List Int)=>⟨[(0,.adr 7 0 0),(1,.fn 61 [.adr 1 0 0,.adr 3 0 0,.adr 4 0 0]),(4,.val (.int .i64 v21)),(18,.val (.int .i64 ((List.replicate v21.toNat ([]:List Int)).length:Int))),(19,.val (.int .i64 s52.2))],[(0,.mix 5 [[.val (.int .i64 0),.val (.slice none 0 0),.val (.slice none 0 0),.val (.slice none 0 0),.val (.slice none 0 0)]]),(1,.mix 1 [[.own 2 0 v1.length]]),(2,.row 1 (Ls v1)),(3,.mix 1 [[.cmap .str (Msi v3)]]),(4,.mix 3 [[.rptr (Mnd.cells true m_),.rptr (Mnd.cells true m_),.fn 82 [.adr 5 0 0,.adr 6 0 0]]]),(5,.mix 1 [[.rptr (Mnd.cells true m_)]]),(6,.mix 1 [[.rptr (Mnd.cells true m_)]]),(7,.mix 5 [[.val (.int .i64 m_.f.s.n),.own 8 0 v6.length,.own 9 0 v7.length,.own 10 0 b8.length,.own 11 0 b54.length]]),(8,.row 1 (Is v6)),(9,.row 1 (Is v7)),(10,.row 1 (Is b8)),(11,.row 1 (Ls b54))],12⟩) (fun b54=>b54=e54) ?_ ?_
   ·refine w_block ?_
    refine w_seq ?_
    refine w_runX [] mo (by rw [hN];decide) fun K hK=>?_
    simp [-guardE_b,-Is_at,-Is_at',-Ls_at,-Ls_at',eL,eI,allInts,eP_Cat,eP_Mnd,Cat.cells,Mnd.cells]
    repeat with_reducible refine sdQ ?_
    refine hK _ ?_
    clear hK K
    refine tn ?_
    refine w_weak (st':=⟨[(0,.adr 7 0 0),(1,.fn 61 [.adr 1 0 0,.adr 3 0 0,.adr 4 0 0]),(4,.val (.int .i64 v21)),(5,.val (.int .i64 s52.2)),(18,.val (.int .i64 ((List.replicate v21.toNat ([]:List Int)).length:Int))),(19,.val (.int .i64 s52.2))],[(0,.mix 5 [[.val (.int .i64 0),.val (.slice none 0 0),.val (.slice none 0 0),.val (.slice none 0 0),.val (.slice none 0 0)]]),(1,.mix 1 [[.own 2 0 v1.length]]),(2,.row 1 (Ls v1)),(3,.mix 1 [[.cmap .str (Msi v3)]]),(4,.mix 3 [[.rptr (Mnd.cells true m_),.rptr (Mnd.cells true m_),.fn 82 [.adr 5 0 0,.adr 6 0 0]]]),(5,.mix 1 [[.rptr (Mnd.cells true m_)]]),(6,.mix 1 [[.rptr (Mnd.cells true m_)]]),(7,.mix 5 [[.val (.int .i64 m_.f.s.n),.own 8 0 v6.length,.own 9 0 v7.length,.own 10 0 b8.length,.own 11 0 s52.1.length]]),(8,.row 1 (Is v6)),(9,.row 1 (Is v7)),(10,.row 1 (Is b8)),(11,.row 1 (Ls s52.1))],12⟩) (Wk.rP _ [(0,0),(1,1),(2,2),(3,3),(4,4),(5,5),(6,6),(7,7),(8,8),(9,9),(10,10),(11,11)] hP (by rfl) (by simp [hhOk,back,Cat.cells,Mnd.cells,UA,U1,IA,I1,LA,L1,BA,B1,EA,E1,E2,eB,eI,eL])) ?_
    refine w_seq ?_
    refine w_runX [] mo (by rw [hN];decide) fun K hK=>?_
    replace h:=ass_some h
    obtain ⟨a55,h⟩:=h
    replace h:=ass_some h
    obtain ⟨a56,h⟩:=h
    simp [-guardE_b,-Is_at,-Is_at',-Ls_at,-Ls_at',eL,eI,allInts,eP_Cat,eP_Mnd,Cat.cells,Mnd.cells,at_L a56]
    repeat with_reducible refine sdQ ?_
    refine stoX_row (fz:=[]) [] tf_22 rfl (b:=.lst true 1 (Is (List.replicate v21.toNat 0))) (ds:=[12]) (es2:=Ls (s52.1.set s52.2.toNat (List.replicate v21.toNat 0))) rfl (by simp) (by first|(simp;done)|(simp;omega)|omega) (by simp) (by simp) (by simp) (by simp) Ls_st ?_
    simp [-guardE_b,-Is_at,-Is_at',-Ls_at,-Ls_at',eL,eI,allInts,eP_Cat,eP_Mnd,Cat.cells,Mnd.cells,at_L a56]
    repeat with_reducible refine sdQ ?_
    refine hK _ ?_
    clear hK K
    refine tn ?_
    refine w_weak (st':=⟨[(0,.adr 7 0 0),(1,.fn 61 [.adr 1 0 0,.adr 3 0 0,.adr 4 0 0]),(4,.val (.int .i64 v21)),(5,.val (.int .i64 s52.2)),(18,.val (.int .i64 ((List.replicate v21.toNat ([]:List Int)).length:Int))),(19,.val (.int .i64 s52.2))],[(0,.mix 5 [[.val (.int .i64 0),.val (.slice none 0 0),.val (.slice none 0 0),.val (.slice none 0 0),.val (.slice none 0 0)]]),(1,.mix 1 [[.own 2 0 v1.length]]),(2,.row 1 (Ls v1)),(3,.mix 1 [[.cmap .str (Msi v3)]]),(4,.mix 3 [[.rptr (Mnd.cells true m_),.rptr (Mnd.cells true m_),.fn 82 [.adr 5 0 0,.adr 6 0 0]]]),(5,.mix 1 [[.rptr (Mnd.cells true m_)]]),(6,.mix 1 [[.rptr (Mnd.cells true m_)]]),(7,.mix 5 [[.val (.int .i64 m_.f.s.n),.own 8 0 v6.length,.own 9 0 v7.length,.own 10 0 b8.length,.own 11 0 ((s52.1.set s52.2.toNat (List.replicate v21.toNat 0)).length)]]),(8,.row 1 (Is v6)),(9,.row 1 (Is v7)),(10,.row 1 (Is b8)),(11,.row 1 (Ls (s52.1.set s52.2.toNat (List.replicate v21.toNat 0))))],12⟩) (Wk.rP _ [(0,0),(1,1),(2,2),(3,3),(4,4),(5,5),(6,6),(7,7),(8,8),(9,9),(10,10),(11,11)] hP (by rfl) (by simp [hhOk,back,Cat.cells,Mnd.cells,UA,U1,IA,I1,LA,L1,BA,B1,EA,E1,E2,eB,eI,eL])) ?_
    refine w_seq ?_
    refine w_runX [] mo (by rw [hN];decide) fun K hK=>?_
    replace h:=ass_some h
    obtain ⟨a57,h⟩:=h
    simp [-guardE_b,-Is_at,-Is_at',-Ls_at,-Ls_at',eL,eI,allInts,eP_Cat,eP_Mnd,Cat.cells,Mnd.cells,at_L a57]
    repeat with_reducible refine sdQ ?_
    refine hK _ ?_
    clear hK K
    refine tn ?_
    refine w_weak (st':=⟨[(0,.adr 7 0 0),(1,.fn 61 [.adr 1 0 0,.adr 3 0 0,.adr 4 0 0]),(4,.val (.int .i64 v21)),(5,.val (.int .i64 s52.2)),(18,.val (.int .i64 ((List.replicate v21.toNat ([]:List Int)).length:Int))),(19,.val (.int .i64 s52.2)),(37,.val (.int .i64 ((rx (s52.1.set s52.2.toNat (List.replicate v21.toNat 0)) s52.2).length:Int))),(38,.val (.int .i64 0))],[(0,.mix 5 [[.val (.int .i64 0),.val (.slice none 0 0),.val (.slice none 0 0),.val (.slice none 0 0),.val (.slice none 0 0)]]),(1,.mix 1 [[.own 2 0 v1.length]]),(2,.row 1 (Ls v1)),(3,.mix 1 [[.cmap .str (Msi v3)]]),(4,.mix 3 [[.rptr (Mnd.cells true m_),.rptr (Mnd.cells true m_),.fn 82 [.adr 5 0 0,.adr 6 0 0]]]),(5,.mix 1 [[.rptr (Mnd.cells true m_)]]),(6,.mix 1 [[.rptr (Mnd.cells true m_)]]),(7,.mix 5 [[.val (.int .i64 m_.f.s.n),.own 8 0 v6.length,.own 9 0 v7.length,.own 10 0 b8.length,.own 11 0 ((s52.1.set s52.2.toNat (List.replicate v21.toNat 0)).length)]]),(8,.row 1 (Is v6)),(9,.row 1 (Is v7)),(10,.row 1 (Is b8)),(11,.row 1 (Ls (s52.1.set s52.2.toNat (List.replicate v21.toNat 0))))],12⟩) (Wk.rP _ [(0,0),(1,1),(2,2),(3,3),(4,4),(5,5),(6,6),(7,7),(8,8),(9,9),(10,10),(11,11)] hP (by rfl) (by simp [hhOk,back,Cat.cells,Mnd.cells,UA,U1,IA,I1,LA,L1,BA,B1,EA,E1,E2,eB,eI,eL])) ?_
    refine w_block ?_
    replace h:=bind_some h
    obtain ⟨e69,he69,h69⟩:=h
    refine w_loopF he69 (fun s69:List (List Int) × Int=>⟨[(0,.adr 7 0 0),(1,.fn 61 [.adr 1 0 0,.adr 3 0 0,.adr 4 0 0]),(4,.val (.int .i64 v21)),(5,.val (.int .i64 s52.2)),(18,.val (.int .i64 ((List.replicate v21.toNat ([]:List Int)).length:Int))),(19,.val (.int .i64 s52.2)),(37,.val (.int .i64 ((rx (s52.1.set s52.2.toNat (List.replicate v21.toNat 0)) s52.2).length:Int))),(38,.val (.int .i64 s69.2))],[(0,.mix 5 [[.val (.int .i64 0),.val (.slice none 0 0),.val (.slice none 0 0),.val (.slice none 0 0),.val (.slice none 0 0)]]),(1,.mix 1 [[.own 2 0 v1.length]]),(2,.row 1 (Ls v1)),(3,.mix 1 [[.cmap .str (Msi v3)]]),(4,.mix 3 [[.rptr (Mnd.cells true m_),.rptr (Mnd.cells true m_),.fn 82 [.adr 5 0 0,.adr 6 0 0]]]),(5,.mix 1 [[.rptr (Mnd.cells true m_)]]),(6,.mix 1 [[.rptr (Mnd.cells true m_)]]),(7,.mix 5 [[.val (.int .i64 m_.f.s.n),.own 8 0 v6.length,.own 9 0 v7.length,.own 10 0 b8.length,.own 11 0 s69.1.length]]),(8,.row 1 (Is v6)),(9,.row 1 (Is v7)),(10,.row 1 (Is b8)),(11,.row 1 (Ls s69.1))],12⟩) (Wk.rP _ [(0,0),(1,1),(2,2),(3,3),(4,4),(5,5),(6,6),(7,7),(8,8),(9,9),(10,10),(11,11)] hP (by rfl) (by simp [hhOk,back,Cat.cells,Mnd.cells,UA,U1,IA,I1,LA,L1,BA,B1,EA,E1,E2,eB,eI,eL])) ?_
    intro k69 s69 c69 h hk69
    refine w_seq ?_
    refine w_runX [] mo (by rw [hN];decide) fun K hK=>?_
    simp [-guardE_b,-Is_at,-Is_at',-Ls_at,-Ls_at',eL,eI,allInts,eP_Cat,eP_Mnd,Cat.cells,Mnd.cells]
    repeat with_reducible refine sdQ ?_
    refine hK _ ?_
    clear hK K
    refine tn ?_
    refine w_weak (st':=⟨[(0,.adr 7 0 0),(1,.fn 61 [.adr 1 0 0,.adr 3 0 0,.adr 4 0 0]),(4,.val (.int .i64 v21)),(5,.val (.int .i64 s52.2)),(18,.val (.int .i64 ((List.replicate v21.toNat ([]:List Int)).length:Int))),(19,.val (.int .i64 s52.2)),(37,.val (.int .i64 ((rx (s52.1.set s52.2.toNat (List.replicate v21.toNat 0)) s52.2).length:Int))),(38,.val (.int .i64 s69.2)),(39,.val (.bool (decide (s69.2<((rx (s52.1.set s52.2.toNat (List.replicate v21.toNat 0)) s52.2).length:Int)))))],[(0,.mix 5 [[.val (.int .i64 0),.val (.slice none 0 0),.val (.slice none 0 0),.val (.slice none 0 0),.val (.slice none 0 0)]]),(1,.mix 1 [[.own 2 0 v1.length]]),(2,.row 1 (Ls v1)),(3,.mix 1 [[.cmap .str (Msi v3)]]),(4,.mix 3 [[.rptr (Mnd.cells true m_),.rptr (Mnd.cells true m_),.fn 82 [.adr 5 0 0,.adr 6 0 0]]]),(5,.mix 1 [[.rptr (Mnd.cells true m_)]]),(6,.mix 1 [[.rptr (Mnd.cells true m_)]]),(7,.mix 5 [[.val (.int .i64 m_.f.s.n),.own 8 0 v6.length,.own 9 0 v7.length,.own 10 0 b8.length,.own 11 0 s69.1.length]]),(8,.row 1 (Is v6)),(9,.row 1 (Is v7)),(10,.row 1 (Is b8)),(11,.row 1 (Ls s69.1))],12⟩) (Wk.rP _ [(0,0),(1,1),(2,2),(3,3),(4,4),(5,5),(6,6),(7,7),(8,8),(9,9),(10,10),(11,11)] hP (by rfl) (by simp [hhOk,back,Cat.cells,Mnd.cells,UA,U1,IA,I1,LA,L1,BA,B1,EA,E1,E2,eB,eI,eL])) ?_
    refine w_seq ?_
    refine w_cond rfl (fun g=>?_) fun g=>?_
    ·have g70:s69.2<((rx (s52.1.set s52.2.toNat (List.replicate v21.toNat 0)) s52.2).length:Int):=by first|simpa using g|(simp at g;exact g)|(simp at g;omega)
     clear g
     replace h:=if_l g70 h
     refine w_skip ?_
     refine tn ?_
     refine w_seq ?_
     replace h:=bind_some h
     obtain ⟨e71,h,h71⟩:=h
     refine w_joinT (fun b71:List (List Int)=>⟨[(0,.adr 7 0 0),(1,.fn 61 [.adr 1 0 0,.adr 3 0 0,.adr 4 0 0]),(4,.val (.int .i64 v21)),(5,.val (.int .i64 s52.2)),(18,.val (.int .i64 ((List.replicate v21.toNat ([]:List Int)).length:Int))),(19,.val (.int .i64 s52.2)),(37,.val (.int .i64 ((rx (s52.1.set s52.2.toNat (List.replicate v21.toNat 0)) s52.2).length:Int))),(38,.val (.int .i64 s69.2))],[(0,.mix 5 [[.val (.int .i64 0),.val (.slice none 0 0),.val (.slice none 0 0),.val (.slice none 0 0),.val (.slice none 0 0)]]),(1,.mix 1 [[.own 2 0 v1.length]]),(2,.row 1 (Ls v1)),(3,.mix 1 [[.cmap .str (Msi v3)]]),(4,.mix 3 [[.rptr (Mnd.cells true m_),.rptr (Mnd.cells true m_),.fn 82 [.adr 5 0 0,.adr 6 0 0]]]),(5,.mix 1 [[.rptr (Mnd.cells true m_)]]),(6,.mix 1 [[.rptr (Mnd.cells true m_)]]),(7,.mix 5 [[.val (.int .i64 m_.f.s.n),.own 8 0 v6.length,.own 9 0 v7.length,.own 10 0 b8.length,.own 11 0 b71.length]]),(8,.row 1 (Is v6)),(9,.row 1 (Is v7)),(10,.row 1 (Is b8)),(11,.row 1 (Ls b71))],12⟩) (fun b71=>b71=e71) ?_ ?_
     ·refine w_block ?_
      refine w_seq ?_
      refine w_runX [] mo (by rw [hN];decide) fun K hK=>?_
      simp [-guardE_b,-Is_at,-Is_at',-Ls_at,-Ls_at',eL,eI,allInts,eP_Cat,eP_Mnd,Cat.cells,Mnd.cells]
      repeat with_reducible refine sdQ ?_
      refine hK _ ?_
      clear hK K
      refine tn ?_
      refine w_weak (st':=⟨[(0,.adr 7 0 0),(1,.fn 61 [.adr 1 0 0,.adr 3 0 0,.adr 4 0 0]),(4,.val (.int .i64 v21)),(5,.val (.int .i64 s52.2)),(6,.val (.int .i64 s69.2)),(18,.val (.int .i64 ((List.replicate v21.toNat ([]:List Int)).length:Int))),(19,.val (.int .i64 s52.2)),(37,.val (.int .i64 ((rx (s52.1.set s52.2.toNat (List.replicate v21.toNat 0)) s52.2).length:Int))),(38,.val (.int .i64 s69.2))],[(0,.mix 5 [[.val (.int .i64 0),.val (.slice none 0 0),.val (.slice none 0 0),.val (.slice none 0 0),.val (.slice none 0 0)]]),(1,.mix 1 [[.own 2 0 v1.length]]),(2,.row 1 (Ls v1)),(3,.mix 1 [[.cmap .str (Msi v3)]]),(4,.mix 3 [[.rptr (Mnd.cells true m_),.rptr (Mnd.cells true m_),.fn 82 [.adr 5 0 0,.adr 6 0 0]]]),(5,.mix 1 [[.rptr (Mnd.cells true m_)]]),(6,.mix 1 [[.rptr (Mnd.cells true m_)]]),(7,.mix 5 [[.val (.int .i64 m_.f.s.n),.own 8 0 v6.length,.own 9 0 v7.length,.own 10 0 b8.length,.own 11 0 s69.1.length]]),(8,.row 1 (Is v6)),(9,.row 1 (Is v7)),(10,.row 1 (Is b8)),(11,.row 1 (Ls s69.1))],12⟩) (Wk.rP _ [(0,0),(1,1),(2,2),(3,3),(4,4),(5,5),(6,6),(7,7),(8,8),(9,9),(10,10),(11,11)] hP (by rfl) (by simp [hhOk,back,Cat.cells,Mnd.cells,UA,U1,IA,I1,LA,L1,BA,B1,EA,E1,E2,eB,eI,eL])) ?_
      refine w_seq ?_
      refine w_runX [] mo (by rw [hN];decide) fun K hK=>?_
      replace h:=ass_some h
      obtain ⟨a72,h⟩:=h
      replace h:=ass_some h
      obtain ⟨a73,h⟩:=h
      simp [-guardE_b,-Is_at,-Is_at',-Ls_at,-Ls_at',eL,eI,allInts,eP_Cat,eP_Mnd,Cat.cells,Mnd.cells,at_L a72,at_I a73]
      repeat with_reducible refine sdQ ?_
      refine hK _ ?_
      clear hK K
      refine tn ?_
      refine w_weak (st':=⟨[(0,.adr 7 0 0),(1,.fn 61 [.adr 1 0 0,.adr 3 0 0,.adr 4 0 0]),(4,.val (.int .i64 v21)),(5,.val (.int .i64 s52.2)),(6,.val (.int .i64 s69.2)),(18,.val (.int .i64 ((List.replicate v21.toNat ([]:List Int)).length:Int))),(19,.val (.int .i64 s52.2)),(37,.val (.int .i64 ((rx (s52.1.set s52.2.toNat (List.replicate v21.toNat 0)) s52.2).length:Int))),(38,.val (.int .i64 s69.2))],[(0,.mix 5 [[.val (.int .i64 0),.val (.slice none 0 0),.val (.slice none 0 0),.val (.slice none 0 0),.val (.slice none 0 0)]]),(1,.mix 1 [[.own 2 0 v1.length]]),(2,.row 1 (Ls v1)),(3,.mix 1 [[.cmap .str (Msi v3)]]),(4,.mix 3 [[.rptr (Mnd.cells true m_),.rptr (Mnd.cells true m_),.fn 82 [.adr 5 0 0,.adr 6 0 0]]]),(5,.mix 1 [[.rptr (Mnd.cells true m_)]]),(6,.mix 1 [[.rptr (Mnd.cells true m_)]]),(7,.mix 5 [[.val (.int .i64 m_.f.s.n),.own 8 0 v6.length,.own 9 0 v7.length,.own 10 0 b8.length,.own 11 0 ((s69.1.set s52.2.toNat ((rx s69.1 s52.2).set s69.2.toNat (-1))).length)]]),(8,.row 1 (Is v6)),(9,.row 1 (Is v7)),(10,.row 1 (Is b8)),(11,.row 1 (Ls (s69.1.set s52.2.toNat ((rx s69.1 s52.2).set s69.2.toNat (-1)))))],12⟩) (Wk.rP _ [(0,0),(1,1),(2,2),(3,3),(4,4),(5,5),(6,6),(7,7),(8,8),(9,9),(10,10),(11,11)] hP (by rfl) (by simp [hhOk,back,Cat.cells,Mnd.cells,UA,U1,IA,I1,LA,L1,BA,B1,EA,E1,E2,eB,eI,eL])) ?_
      refine w_seq ?_
      refine w_runX [] mo (by rw [hN];decide) fun K hK=>?_
      replace h:=ass_some h
      obtain ⟨a74,h⟩:=h
      replace h:=ass_some h
      obtain ⟨a75,h⟩:=h
      simp [-guardE_b,-Is_at,-Is_at',-Ls_at,-Ls_at',eL,eI,allInts,eP_Cat,eP_Mnd,Cat.cells,Mnd.cells,at_I a74,at_I a75]
      repeat with_reducible refine sdQ ?_
      refine hK _ ?_
      clear hK K
      refine tn ?_
      refine w_weak (st':=⟨[(0,.adr 7 0 0),(1,.fn 61 [.adr 1 0 0,.adr 3 0 0,.adr 4 0 0]),(4,.val (.int .i64 v21)),(5,.val (.int .i64 s52.2)),(6,.val (.int .i64 s69.2)),(18,.val (.int .i64 ((List.replicate v21.toNat ([]:List Int)).length:Int))),(19,.val (.int .i64 s52.2)),(37,.val (.int .i64 ((rx (s52.1.set s52.2.toNat (List.replicate v21.toNat 0)) s52.2).length:Int))),(38,.val (.int .i64 s69.2)),(64,.val (.bool ((ix v7 s52.2) == (ix v6 s69.2))))],[(0,.mix 5 [[.val (.int .i64 0),.val (.slice none 0 0),.val (.slice none 0 0),.val (.slice none 0 0),.val (.slice none 0 0)]]),(1,.mix 1 [[.own 2 0 v1.length]]),(2,.row 1 (Ls v1)),(3,.mix 1 [[.cmap .str (Msi v3)]]),(4,.mix 3 [[.rptr (Mnd.cells true m_),.rptr (Mnd.cells true m_),.fn 82 [.adr 5 0 0,.adr 6 0 0]]]),(5,.mix 1 [[.rptr (Mnd.cells true m_)]]),(6,.mix 1 [[.rptr (Mnd.cells true m_)]]),(7,.mix 5 [[.val (.int .i64 m_.f.s.n),.own 8 0 v6.length,.own 9 0 v7.length,.own 10 0 b8.length,.own 11 0 ((s69.1.set s52.2.toNat ((rx s69.1 s52.2).set s69.2.toNat (-1))).length)]]),(8,.row 1 (Is v6)),(9,.row 1 (Is v7)),(10,.row 1 (Is b8)),(11,.row 1 (Ls (s69.1.set s52.2.toNat ((rx s69.1 s52.2).set s69.2.toNat (-1)))))],12⟩) (Wk.rP _ [(0,0),(1,1),(2,2),(3,3),(4,4),(5,5),(6,6),(7,7),(8,8),(9,9),(10,10),(11,11)] hP (by rfl) (by simp [hhOk,back,Cat.cells,Mnd.cells,UA,U1,IA,I1,LA,L1,BA,B1,EA,E1,E2,eB,eI,eL])) ?_
      refine w_cond rfl (fun g=>?_) fun g=>?_
      ·have g76:(ix v7 s52.2)=(ix v6 s69.2):=by first|simpa using g|(simp at g;exact g)|(simp at g;omega)
       clear g
       replace h:=if_l g76 h
       refine w_runX [] mo (by rw [hN];decide) fun K hK=>?_
       replace h:=ass_some h
       obtain ⟨a77,h⟩:=h
       simp [-guardE_b,-Is_at,-Is_at',-Ls_at,-Ls_at',eL,eI,allInts,eP_Cat,eP_Mnd,Cat.cells,Mnd.cells,at_L a77]
       repeat with_reducible refine sdQ ?_
       replace h:=bind_some h
       obtain ⟨v78,hv78,h⟩:=h
       refine callX_intro (fz:=[]) (w_i_Monad_kleisli_c1_v23_88_92 _ _ _ _ _ v78 hv78) (.cons .val (.cons .val (.cons (.field rfl (by simp [Cat.cells,Mnd.cells]) (.cons (.whole (by simp) (by simp) (by simp)) .nil)) (.cons (.field rfl (by simp [Cat.cells,Mnd.cells]) (.cons .cmap .nil)) (.cons (.field rfl (by simp [Cat.cells,Mnd.cells]) (.cons (.preT (by simp [Cat.cells,Mnd.cells])) (.cons (.preT (by simp [Cat.cells,Mnd.cells])) (.cons (.fnL (by simp) (.cons (.field rfl (by simp [Cat.cells,Mnd.cells]) (.cons (.preT (by simp [Cat.cells,Mnd.cells])) .nil)) (.cons (.field rfl (by simp [Cat.cells,Mnd.cells]) (.cons (.preT (by simp [Cat.cells,Mnd.cells])) .nil)) .nil))) .nil)))) .nil))))) ?_
       replace h:=ass_some h
       obtain ⟨a79,h⟩:=h
       simp [-guardE_b,-Is_at,-Is_at',-Ls_at,-Ls_at',unk,unA,unE,unT,unC,flat,eL,eI,allInts,eP_Cat,eP_Mnd,Cat.cells,Mnd.cells,at_L a77,at_I a79]
       repeat with_reducible refine sdQ ?_
       refine hK _ ?_
       clear hK K
       refine bn ?_
       exact jn (b:=(s69.1.set s52.2.toNat ((rx s69.1 s52.2).set s69.2.toNat (-1))).set s52.2.toNat ((rx (s69.1.set s52.2.toNat ((rx s69.1 s52.2).set s69.2.toNat (-1))) s52.2).set s69.2.toNat v78)) (Option.some.inj h) (Wk.rP _ [(0,0),(1,1),(2,2),(3,3),(4,4),(5,5),(6,6),(7,7),(8,8),(9,9),(10,10),(11,11)] hP (by rfl) (by simp [hhOk,back,Cat.cells,Mnd.cells,UA,U1,IA,I1,LA,L1,BA,B1,EA,E1,E2,eB,eI,eL]))
      have g76:¬ ((ix v7 s52.2)=(ix v6 s69.2)):=by first|simpa using g|(simp at g;exact g)|(simp at g;omega)
      clear g
      replace h:=if_r g76 h
      refine w_skip ?_
      refine bn ?_
      exact jn (b:=s69.1.set s52.2.toNat ((rx s69.1 s52.2).set s69.2.toNat (-1))) (Option.some.inj h) (Wk.rP _ [(0,0),(1,1),(2,2),(3,3),(4,4),(5,5),(6,6),(7,7),(8,8),(9,9),(10,10),(11,11)] hP (by rfl) (by simp [hhOk,back,Cat.cells,Mnd.cells,UA,U1,IA,I1,LA,L1,BA,B1,EA,E1,E2,eB,eI,eL]))
     intro b71 hb71
     have h:=h71
     rw [← hb71] at h
     clear h71
     try dsimp only at h
     refine w_runX [] mo (by rw [hN];decide) fun K hK=>?_
     replace h:=ass_some h
     obtain ⟨a80,h⟩:=h
     simp [-guardE_b,-Is_at,-Is_at',-Ls_at,-Ls_at',eL,eI,allInts,eP_Cat,eP_Mnd,Cat.cells,Mnd.cells,wrap_id a80]
     repeat with_reducible refine sdQ ?_
     refine hK _ ?_
     clear hK K
     cases h
     exact rn (s':=(b71,s69.2+1)) hk69 (Wk.rP _ [(0,0),(1,1),(2,2),(3,3),(4,4),(5,5),(6,6),(7,7),(8,8),(9,9),(10,10),(11,11)] hP (by rfl) (by simp [hhOk,back,Cat.cells,Mnd.cells,UA,U1,IA,I1,LA,L1,BA,B1,EA,E1,E2,eB,eI,eL]))
    have g70:¬ (s69.2<((rx (s52.1.set s52.2.toNat (List.replicate v21.toNat 0)) s52.2).length:Int)):=by first|simpa using g|(simp at g;exact g)|(simp at g;omega)
    clear g
    replace h:=if_r g70 h
    refine w_exit ?_
    refine tx ?_
    refine lx ?_
    refine bh ?_
    refine bn ?_
    cases h
    have q:_=e69:=hk69
    have h:=h69
    rw [← q] at h
    clear q
    try dsimp only at h
    exact jn (b:=s69.1) (Option.some.inj h) (Wk.rP _ [(0,0),(1,1),(2,2),(3,3),(4,4),(5,5),(6,6),(7,7),(8,8),(9,9),(10,10),(11,11)] hP (by rfl) (by simp [hhOk,back,Cat.cells,Mnd.cells,UA,U1,IA,I1,LA,L1,BA,B1,EA,E1,E2,eB,eI,eL]))
   intro b54 hb54
   have h:=h54
   rw [← hb54] at h
   clear h54
   try dsimp only at h
   refine w_runX [] mo (by rw [hN];decide) fun K hK=>?_
   replace h:=ass_some h
   obtain ⟨a81,h⟩:=h
   simp [-guardE_b,-Is_at,-Is_at',-Ls_at,-Ls_at',eL,eI,allInts,eP_Cat,eP_Mnd,Cat.cells,Mnd.cells,wrap_id a81]
   repeat with_reducible refine sdQ ?_
   refine hK _ ?_
   clear hK K
   cases h
   exact rn (s':=(b54,s52.2+1)) hk52 (Wk.rP _ [(0,0),(1,1),(2,2),(3,3),(4,4),(5,5),(6,6),(7,7),(8,8),(9,9),(10,10),(11,11)] hP (by rfl) (by simp [hhOk,back,Cat.cells,Mnd.cells,UA,U1,IA,I1,LA,L1,BA,B1,EA,E1,E2,eB,eI,eL]))
  have g53:¬ (s52.2<((List.replicate v21.toNat ([]:List Int)).length:Int)):=by first|simpa using g|(simp at g;exact g)|(simp at g;omega)
  clear g
  replace h:=if_r g53 h
  refine w_exit ?_
  refine tx ?_
  refine lx ?_
  refine bh ?_
  cases h
  have q:_=e52:=hk52
  have h:=h52
  rw [← q] at h
  clear q
  try dsimp only at h
  cases h
  first|refine iw_r (st':=⟨[],[(0,.mix 5 [[.val (.int .i64 0),.val (.slice none 0 0),.val (.slice none 0 0),.val (.slice none 0 0),.val (.slice none 0 0)]]),(1,.mix 1 [[.own 2 0 v1.length]]),(2,.row 1 (Ls v1)),(3,.mix 1 [[.cmap .str (Msi v3)]]),(4,.mix 3 [[.rptr (Mnd.cells true m_),.rptr (Mnd.cells true m_),.fn 82 [.adr 5 0 0,.adr 6 0 0]]]),(5,.mix 1 [[.rptr (Mnd.cells true m_)]]),(6,.mix 1 [[.rptr (Mnd.cells true m_)]]),(7,.mix 5 [[.val (.int .i64 m_.f.s.n),.own 8 0 v6.length,.own 9 0 v7.length,.own 10 0 b8.length,.own 11 0 s52.1.length]]),(8,.row 1 (Is v6)),(9,.row 1 (Is v7)),(10,.row 1 (Is b8)),(11,.row 1 (Ls s52.1))],12⟩) ?_ ?_|refine iw_n (st':=⟨[],[(0,.mix 5 [[.val (.int .i64 0),.val (.slice none 0 0),.val (.slice none 0 0),.val (.slice none 0 0),.val (.slice none 0 0)]]),(1,.mix 1 [[.own 2 0 v1.length]]),(2,.row 1 (Ls v1)),(3,.mix 1 [[.cmap .str (Msi v3)]]),(4,.mix 3 [[.rptr (Mnd.cells true m_),.rptr (Mnd.cells true m_),.fn 82 [.adr 5 0 0,.adr 6 0 0]]]),(5,.mix 1 [[.rptr (Mnd.cells true m_)]]),(6,.mix 1 [[.rptr (Mnd.cells true m_)]]),(7,.mix 5 [[.val (.int .i64 m_.f.s.n),.own 8 0 v6.length,.own 9 0 v7.length,.own 10 0 b8.length,.own 11 0 s52.1.length]]),(8,.row 1 (Is v6)),(9,.row 1 (Is v7)),(10,.row 1 (Is b8)),(11,.row 1 (Ls s52.1))],12⟩) ?_ ?_
  ·exact Wk.rP _ [(0,0),(1,1),(2,2),(3,3),(4,4),(5,5),(6,6),(7,7),(8,8),(9,9),(10,10),(11,11)] hP (by rfl) (by simp [hhOk,back,Cat.cells,Mnd.cells,UA,U1,IA,I1,LA,L1,BA,B1,EA,E1,E2,eB,eI,eL])
  exact ⟨by simp [oneOrA],by simp,by simp [Cat.cells,Mnd.cells]⟩
 simp [-guardE_b,-Is_at,-Is_at',-Ls_at,-Ls_at',unk,unA,unE,unT,unC,flat,eL,eI,allInts,eP_Cat,eP_Mnd,Cat.cells,Mnd.cells]
 repeat with_reducible refine sdQ ?_
 refine hK _ ?_
 clear hK K
 refine tn ?_
 refine w_weak (st':=⟨[(2,.adr 0 0 0),(5,.adr 1 0 0),(8,.adr 3 0 0)],[(0,.mix 5 [[.val (.int .i64 0),.val (.slice none 0 0),.val (.slice none 0 0),.val (.slice none 0 0),.val (.slice none 0 0)]]),(1,.mix 1 [[.own 2 0 v1.length]]),(2,.row 1 (Ls v1)),(3,.mix 5 [[.val (.int .i64 m_.f.s.n),.own 4 0 v6.length,.own 5 0 v7.length,.own 6 0 b8.length,.own 7 0 v82.length]]),(4,.row 1 (Is v6)),(5,.row 1 (Is v7)),(6,.row 1 (Is b8)),(7,.row 1 (Ls v82))],8⟩) (Wk.r1 [(0,0),(1,1),(2,2),(7,3),(8,4),(9,5),(10,6),(11,7)] (by simp [hP,hhOk,back,Cat.cells,Mnd.cells,UA,U1,IA,I1,LA,L1,BA,B1,EA,E1,E2,eB,eI,eL])) ?_
 refine w_seq ?_
 refine w_runXD [] [2] mo (by rw [hN];decide) (by rfl) fun K hK=>?_
 simp [-guardE_b,-Is_at,-Is_at',-Ls_at,-Ls_at',eL,eI,allInts,eP_Cat,eP_Mnd,Cat.cells,Mnd.cells]
 repeat with_reducible refine sdQ ?_
 refine hK _ ?_
 clear hK K
 refine tn ?_
 refine w_weak (st':=⟨[(2,.adr 0 0 0),(3,.own 5 0 v1.length),(4,.val (.bool true))],[(0,.mix 5 [[.val (.int .i64 m_.f.s.n),.own 1 0 v6.length,.own 2 0 v7.length,.own 3 0 b8.length,.own 4 0 v82.length]]),(1,.row 1 (Is v6)),(2,.row 1 (Is v7)),(3,.row 1 (Is b8)),(4,.row 1 (Ls v82)),(5,.row 1 (Ls v1))],6⟩) (Wk.r1 [(0,0),(4,1),(5,2),(6,3),(7,4),(2,5)] (by simp [hP,hhOk,back,Cat.cells,Mnd.cells,UA,U1,IA,I1,LA,L1,BA,B1,EA,E1,E2,eB,eI,eL])) ?_
 refine w_ret ?_
 have hr:=Option.some.inj h
 rw [← hr]
 refine ⟨_,(.cell tf_33 rfl rfl rfl (by simp) (by simp) (.tmp (.tmp .nil))),?_⟩
 refine ⟨(.agg rfl (.one rfl rfl (.one rfl rfl .nil))),[.val (.int .i64 m_.f.s.n),.lst true 1 (Is v6),.lst true 1 (Is v7),.lst true 1 (Is b8),.lst true 1 (Ls v82),.lst true 1 (Ls v1),.val (.bool true)],[1,2,3,4,5],by simp [Cat.cells,Mnd.cells,UA,U1,IA,I1,LA,L1,BA,B1,EA,E1,E2,eB,eI,eL],by simp,(UpL.refl _)⟩
end Go.Vc.T
namespace Go.Vc.T
open Go Go.Vc Go.Proofs
noncomputable def s_i_kleisliCode (m_:Mnd):Option (Cat × List (List Int) × Int) :=
 (s_i_Monad_isMonad m_).bind fun v1 =>
 if ¬ (v1=true) then
  some ((⟨0,[],[],[],[]⟩:Cat),[],1)
 else
  (s_i_Monad_kleisli m_).bind fun v3 =>
  if ¬ (v3.2.2=true) then
   some ((⟨0,[],[],[],[]⟩:Cat),[],3)
  else
   some (v3.1,v3.2.1,0)
set_option maxHeartbeats 4000000 in
theorem w_i_kleisliCode (m_:Mnd) (r:Cat × List (List Int) × Int) (h:s_i_kleisliCode m_=some r):Contract Try.prog 24 [.rptr (m_.cells true)] (.tup [.agg (r.1.cells true),.lst true 1 (Ls r.2.1),.val (.int .i64 r.2.2)]):=by
 refine contract_introG (rvs:=[.cell 2 33,.tmp 3,.tmp 4]) (rs:=[.agg (r.1.cells true),.lst true 1 (Ls r.2.1),.val (.int .i64 r.2.2)]) Try.func24 rfl rfl rfl rfl (by simp [Try.f24]) fun F hN hP=>?_
 unfold s_i_kleisliCode at h
 refine w_seq ?_
 refine runQ hN fun K hK=>?_
 simp [-guardE_b,-Is_at,-Is_at',-Ls_at,-Ls_at',eL,eI,allInts,eP_Cat,eP_Mnd,Cat.cells,Mnd.cells]
 repeat with_reducible refine sdQ ?_
 refine hK _ ?_
 clear hK K
 refine tn ?_
 refine w_weak (st':=⟨[(0,.rptr (Mnd.cells true m_)),(2,.adr 0 0 0)],[(0,.mix 5 [[.val (.int .i64 0),.val (.slice none 0 0),.val (.slice none 0 0),.val (.slice none 0 0),.val (.slice none 0 0)]])],1⟩) (Wk.r1 [(0,0)] (by simp [hP,hhOk,back,Cat.cells,Mnd.cells,UA,U1,IA,I1,LA,L1,BA,B1,EA,E1,E2,eB,eI,eL])) ?_
 refine w_seq ?_
 refine w_seq ?_
 refine runQ hN fun K hK=>?_
 simp [-guardE_b,-Is_at,-Is_at',-Ls_at,-Ls_at',eL,eI,allInts,eP_Cat,eP_Mnd,Cat.cells,Mnd.cells]
 repeat with_reducible refine sdQ ?_
 replace h:=bind_some h
 obtain ⟨v1,hv1,h⟩:=h
 refine callA_intro (w_i_Monad_isMonad _ v1 hv1) (.cons (.preT (by simp [Mnd.cells])) .nil) ?_
 simp [-guardE_b,-Is_at,-Is_at',-Ls_at,-Ls_at',unk,unA,unE,unT,unC,flat,eL,eI,allInts,eP_Cat,eP_Mnd,Cat.cells,Mnd.cells]
 repeat with_reducible refine sdQ ?_
 refine hK _ ?_
 clear hK K
 refine tn ?_
 refine w_weak (st':=⟨[(0,.rptr (Mnd.cells true m_)),(2,.adr 0 0 0),(10,.val (.bool (!v1)))],[(0,.mix 5 [[.val (.int .i64 0),.val (.slice none 0 0),.val (.slice none 0 0),.val (.slice none 0 0),.val (.slice none 0 0)]])],1⟩) (Wk.r1 [(0,0)] (by simp [hP,hhOk,back,Cat.cells,Mnd.cells,UA,U1,IA,I1,LA,L1,BA,B1,EA,E1,E2,eB,eI,eL])) ?_
 refine w_cond rfl (fun g=>?_) fun g=>?_
 ·have g2:¬ (v1=true):=by first|simpa using g|(simp at g;exact g)|(simp at g;omega)
  clear g
  replace h:=if_l g2 h
  refine w_seq ?_
  refine runQ hN fun K hK=>?_
  simp [-guardE_b,-Is_at,-Is_at',-Ls_at,-Ls_at',eL,eI,allInts,eP_Cat,eP_Mnd,Cat.cells,Mnd.cells]
  repeat with_reducible refine sdQ ?_
  refine hK _ ?_
  clear hK K
  refine tn ?_
  refine w_weak (st':=⟨[(2,.adr 0 0 0),(3,.val (.slice none 0 0)),(4,.val (.int .i64 1))],[(0,.mix 5 [[.val (.int .i64 0),.val (.slice none 0 0),.val (.slice none 0 0),.val (.slice none 0 0),.val (.slice none 0 0)]])],1⟩) (Wk.r1 [(0,0)] (by simp [hP,hhOk,back,Cat.cells,Mnd.cells,UA,U1,IA,I1,LA,L1,BA,B1,EA,E1,E2,eB,eI,eL])) ?_
  refine w_ret ?_
  refine tr ?_
  have hr:=Option.some.inj h
  rw [← hr]
  refine ⟨_,(.cell tf_33 rfl rfl rfl (by simp) (by simp) (.tmp (.tmp .nil))),?_⟩
  refine ⟨(.agg rfl (.one rfl rfl (.one rfl rfl .nil))),[.val (.int .i64 0),.val (.slice none 0 0),.val (.slice none 0 0),.val (.slice none 0 0),.val (.slice none 0 0),.val (.slice none 0 0),.val (.int .i64 1)],[],by simp [Cat.cells,Mnd.cells,UA,U1,IA,I1,LA,L1,BA,B1,EA,E1,E2,eB,eI,eL],by simp,(.cons .refl (.cons .nil (.cons .nil (.cons .nil (.cons .nil (.cons .nil (.cons .refl .nil)))))))⟩
 have g2:¬ (¬ (v1=true)):=by first|simpa using g|(simp at g;exact g)|(simp at g;omega)
 clear g
 replace h:=if_r g2 h
 refine w_skip ?_
 refine tn ?_
 refine w_seq ?_
 refine runQ hN fun K hK=>?_
 simp [-guardE_b,-Is_at,-Is_at',-Ls_at,-Ls_at',eL,eI,allInts,eP_Cat,eP_Mnd,Cat.cells,Mnd.cells]
 repeat with_reducible refine sdQ ?_
 replace h:=bind_some h
 obtain ⟨v3,hv3,h⟩:=h
 refine callA_intro (w_i_Monad_kleisli _ v3 hv3) (.cons (.preT (by simp [Cat.cells,Mnd.cells])) .nil) ?_
 simp [-guardE_b,-Is_at,-Is_at',-Ls_at,-Ls_at',unk,unA,unE,unT,unC,flat,eL,eI,allInts,eP_Cat,eP_Mnd,Cat.cells,Mnd.cells]
 repeat with_reducible refine sdQ ?_
 refine hK _ ?_
 clear hK K
 refine tn ?_
 refine w_weak (st':=⟨[(2,.adr 0 0 0),(5,.adr 1 0 0),(6,.own 6 0 v3.2.1.length),(7,.val (.bool v3.2.2))],[(0,.mix 5 [[.val (.int .i64 0),.val (.slice none 0 0),.val (.slice none 0 0),.val (.slice none 0 0),.val (.slice none 0 0)]]),(1,.mix 5 [[.val (.int .i64 v3.1.n),.own 2 0 v3.1.fr.length,.own 3 0 v3.1.to.length,.own 4 0 v3.1.id.length,.own 5 0 v3.1.cs.length]]),(2,.row 1 (Is v3.1.fr)),(3,.row 1 (Is v3.1.to)),(4,.row 1 (Is v3.1.id)),(5,.row 1 (Ls v3.1.cs)),(6,.row 1 (Ls v3.2.1))],7⟩) (Wk.r1 [(0,0),(8,1),(2,2),(3,3),(4,4),(5,5),(6,6)] (by simp [hP,hhOk,back,Cat.cells,Mnd.cells,UA,U1,IA,I1,LA,L1,BA,B1,EA,E1,E2,eB,eI,eL])) ?_
 refine w_seq ?_
 refine w_seq ?_
 refine runQ hN fun K hK=>?_
 simp [-guardE_b,-Is_at,-Is_at',-Ls_at,-Ls_at',eL,eI,allInts,eP_Cat,eP_Mnd,Cat.cells,Mnd.cells]
 repeat with_reducible refine sdQ ?_
 refine hK _ ?_
 clear hK K
 refine tn ?_
 refine w_weak (st':=⟨[(2,.adr 0 0 0),(5,.adr 1 0 0),(6,.own 6 0 v3.2.1.length),(19,.val (.bool (!v3.2.2)))],[(0,.mix 5 [[.val (.int .i64 0),.val (.slice none 0 0),.val (.slice none 0 0),.val (.slice none 0 0),.val (.slice none 0 0)]]),(1,.mix 5 [[.val (.int .i64 v3.1.n),.own 2 0 v3.1.fr.length,.own 3 0 v3.1.to.length,.own 4 0 v3.1.id.length,.own 5 0 v3.1.cs.length]]),(2,.row 1 (Is v3.1.fr)),(3,.row 1 (Is v3.1.to)),(4,.row 1 (Is v3.1.id)),(5,.row 1 (Ls v3.1.cs)),(6,.row 1 (Ls v3.2.1))],7⟩) (Wk.r1 [(0,0),(1,1),(2,2),(3,3),(4,4),(5,5),(6,6)] (by simp [hP,hhOk,back,Cat.cells,Mnd.cells,UA,U1,IA,I1,LA,L1,BA,B1,EA,E1,E2,eB,eI,eL])) ?_
 refine w_cond rfl (fun g=>?_) fun g=>?_
 ·have g4:¬ (v3.2.2=true):=by first|simpa using g|(simp at g;exact g)|(simp at g;omega)
  clear g
  replace h:=if_l g4 h
  refine w_seq ?_
  refine runQ hN fun K hK=>?_
  simp [-guardE_b,-Is_at,-Is_at',-Ls_at,-Ls_at',eL,eI,allInts,eP_Cat,eP_Mnd,Cat.cells,Mnd.cells]
  repeat with_reducible refine sdQ ?_
  refine hK _ ?_
  clear hK K
  refine tn ?_
  refine w_weak (st':=⟨[(2,.adr 0 0 0),(3,.val (.slice none 0 0)),(4,.val (.int .i64 3))],[(0,.mix 5 [[.val (.int .i64 0),.val (.slice none 0 0),.val (.slice none 0 0),.val (.slice none 0 0),.val (.slice none 0 0)]])],1⟩) (Wk.r1 [(0,0)] (by simp [hP,hhOk,back,Cat.cells,Mnd.cells,UA,U1,IA,I1,LA,L1,BA,B1,EA,E1,E2,eB,eI,eL])) ?_
  refine w_ret ?_
  refine tr ?_
  have hr:=Option.some.inj h
  rw [← hr]
  refine ⟨_,(.cell tf_33 rfl rfl rfl (by simp) (by simp) (.tmp (.tmp .nil))),?_⟩
  refine ⟨(.agg rfl (.one rfl rfl (.one rfl rfl .nil))),[.val (.int .i64 0),.val (.slice none 0 0),.val (.slice none 0 0),.val (.slice none 0 0),.val (.slice none 0 0),.val (.slice none 0 0),.val (.int .i64 3)],[],by simp [Cat.cells,Mnd.cells,UA,U1,IA,I1,LA,L1,BA,B1,EA,E1,E2,eB,eI,eL],by simp,(.cons .refl (.cons .nil (.cons .nil (.cons .nil (.cons .nil (.cons .nil (.cons .refl .nil)))))))⟩
 have g4:¬ (¬ (v3.2.2=true)):=by first|simpa using g|(simp at g;exact g)|(simp at g;omega)
 clear g
 replace h:=if_r g4 h
 refine w_skip ?_
 refine tn ?_
 refine w_seq ?_
 refine runQ hN fun K hK=>?_
 simp [-guardE_b,-Is_at,-Is_at',-Ls_at,-Ls_at',eL,eI,allInts,eP_Cat,eP_Mnd,Cat.cells,Mnd.cells]
 repeat with_reducible refine sdQ ?_
 refine hK _ ?_
 clear hK K
 refine tn ?_
 refine w_weak (st':=⟨[(2,.adr 0 0 0),(3,.own 5 0 v3.2.1.length),(4,.val (.int .i64 0))],[(0,.mix 5 [[.val (.int .i64 v3.1.n),.own 1 0 v3.1.fr.length,.own 2 0 v3.1.to.length,.own 3 0 v3.1.id.length,.own 4 0 v3.1.cs.length]]),(1,.row 1 (Is v3.1.fr)),(2,.row 1 (Is v3.1.to)),(3,.row 1 (Is v3.1.id)),(4,.row 1 (Ls v3.1.cs)),(5,.row 1 (Ls v3.2.1))],6⟩) (Wk.r1 [(0,0),(2,1),(3,2),(4,3),(5,4),(6,5)] (by simp [hP,hhOk,back,Cat.cells,Mnd.cells,UA,U1,IA,I1,LA,L1,BA,B1,EA,E1,E2,eB,eI,eL])) ?_
 refine w_ret ?_
 have hr:=Option.some.inj h
 rw [← hr]
 refine ⟨_,(.cell tf_33 rfl rfl rfl (by simp) (by simp) (.tmp (.tmp .nil))),?_⟩
 refine ⟨(.agg rfl (.one rfl rfl (.one rfl rfl .nil))),[.val (.int .i64 v3.1.n),.lst true 1 (Is v3.1.fr),.lst true 1 (Is v3.1.to),.lst true 1 (Is v3.1.id),.lst true 1 (Ls v3.1.cs),.lst true 1 (Ls v3.2.1),.val (.int .i64 0)],[1,2,3,4,5],by simp [Cat.cells,Mnd.cells,UA,U1,IA,I1,LA,L1,BA,B1,EA,E1,E2,eB,eI,eL],by simp,(UpL.refl _)⟩
end Go.Vc.T
namespace Go.Vc.T
open Go Go.Vc Go.Proofs
noncomputable def s_i_KleisliCategory (m_:Mnd):Option (Cat × Int) :=
 (s_i_kleisliCode m_).bind fun v1 =>
 some (v1.1,v1.2.2)
set_option maxHeartbeats 4000000 in
theorem w_i_KleisliCategory (m_:Mnd) (r:Cat × Int) (h:s_i_KleisliCategory m_=some r):Contract Try.prog 15 [.agg (m_.cells true)] (.tup [.agg (r.1.cells true),.val (.int .i64 r.2)]):=by
 refine contract_introG (rvs:=[.cell 2 33,.tmp 3]) (rs:=[.agg (r.1.cells true),.val (.int .i64 r.2)]) Try.func15 rfl rfl rfl rfl (by simp [Try.f15]) fun F hN hP=>?_
 unfold s_i_KleisliCategory at h
 refine w_seq ?_
 refine runQ hN fun K hK=>?_
 simp [-guardE_b,-Is_at,-Is_at',-Ls_at,-Ls_at',eL,eI,allInts,eP_Cat,eP_Mnd,Cat.cells,Mnd.cells]
 repeat with_reducible refine sdQ ?_
 refine hK _ ?_
 clear hK K
 refine tn ?_
 refine w_weak (st':=⟨[(1,.adr 0 0 0),(2,.adr 1 0 0)],[(0,.mix 14 [(Mnd.cells true m_)]),(1,.mix 5 [[.val (.int .i64 0),.val (.slice none 0 0),.val (.slice none 0 0),.val (.slice none 0 0),.val (.slice none 0 0)]])],2⟩) (Wk.r1 [(0,0),(1,1)] (by simp [hP,hhOk,back,Cat.cells,Mnd.cells,UA,U1,IA,I1,LA,L1,BA,B1,EA,E1,E2,eB,eI,eL])) ?_
 refine w_seq ?_
 refine runQ hN fun K hK=>?_
 simp [-guardE_b,-Is_at,-Is_at',-Ls_at,-Ls_at',eL,eI,allInts,eP_Cat,eP_Mnd,Cat.cells,Mnd.cells]
 repeat with_reducible refine sdQ ?_
 replace h:=bind_some h
 obtain ⟨v1,hv1,h⟩:=h
 refine callA_intro (w_i_kleisliCode _ v1 hv1) (.cons (.field rfl (by simp [Mnd.cells]) (.cons .val (.cons .lst (.cons .lst (.cons .lst (.cons .lst (.cons .val (.cons .lst (.cons .lst (.cons .lst (.cons .lst (.cons .lst (.cons .lst (.cons .lst (.cons .lst .nil))))))))))))))) .nil) ?_
 simp [-guardE_b,-Is_at,-Is_at',-Ls_at,-Ls_at',unk,unA,unE,unT,unC,flat,eL,eI,allInts,eP_Cat,eP_Mnd,Cat.cells,Mnd.cells]
 repeat with_reducible refine sdQ ?_
 refine hK _ ?_
 clear hK K
 refine tn ?_
 refine w_weak (st':=⟨[(2,.adr 0 0 0),(4,.adr 1 0 0),(6,.val (.int .i64 v1.2.2))],[(0,.mix 5 [[.val (.int .i64 0),.val (.slice none 0 0),.val (.slice none 0 0),.val (.slice none 0 0),.val (.slice none 0 0)]]),(1,.mix 5 [[.val (.int .i64 v1.1.n),.own 2 0 v1.1.fr.length,.own 3 0 v1.1.to.length,.own 4 0 v1.1.id.length,.own 5 0 v1.1.cs.length]]),(2,.row 1 (Is v1.1.fr)),(3,.row 1 (Is v1.1.to)),(4,.row 1 (Is v1.1.id)),(5,.row 1 (Ls v1.1.cs))],6⟩) (Wk.r1 [(1,0),(9,1),(3,2),(4,3),(5,4),(6,5)] (by simp [hP,hhOk,back,Cat.cells,Mnd.cells,UA,U1,IA,I1,LA,L1,BA,B1,EA,E1,E2,eB,eI,eL])) ?_
 refine w_seq ?_
 refine runQ hN fun K hK=>?_
 simp [-guardE_b,-Is_at,-Is_at',-Ls_at,-Ls_at',eL,eI,allInts,eP_Cat,eP_Mnd,Cat.cells,Mnd.cells]
 repeat with_reducible refine sdQ ?_
 refine hK _ ?_
 clear hK K
 refine tn ?_
 refine w_weak (st':=⟨[(2,.adr 0 0 0),(3,.val (.int .i64 v1.2.2))],[(0,.mix 5 [[.val (.int .i64 v1.1.n),.own 1 0 v1.1.fr.length,.own 2 0 v1.1.to.length,.own 3 0 v1.1.id.length,.own 4 0 v1.1.cs.length]]),(1,.row 1 (Is v1.1.fr)),(2,.row 1 (Is v1.1.to)),(3,.row 1 (Is v1.1.id)),(4,.row 1 (Ls v1.1.cs))],5⟩) (Wk.r1 [(0,0),(2,1),(3,2),(4,3),(5,4)] (by simp [hP,hhOk,back,Cat.cells,Mnd.cells,UA,U1,IA,I1,LA,L1,BA,B1,EA,E1,E2,eB,eI,eL])) ?_
 refine w_ret ?_
 have hr:=Option.some.inj h
 rw [← hr]
 refine ⟨_,(.cell tf_33 rfl rfl rfl (by simp) (by simp) (.tmp .nil)),?_⟩
 refine ⟨(.agg rfl (.one rfl rfl .nil)),[.val (.int .i64 v1.1.n),.lst true 1 (Is v1.1.fr),.lst true 1 (Is v1.1.to),.lst true 1 (Is v1.1.id),.lst true 1 (Ls v1.1.cs),.val (.int .i64 v1.2.2)],[1,2,3,4],by simp [Cat.cells,Mnd.cells,UA,U1,IA,I1,LA,L1,BA,B1,EA,E1,E2,eB,eI,eL],by simp,(UpL.refl _)⟩
end Go.Vc.T
namespace Go.Vc.T
open Go Go.Vc Go.Proofs
noncomputable def s_s_l02Fits (c_:Cat):Option Bool :=
 (
  if c_.n≤8 then
   some (decide ((c_.fr.length:Int)≤40))
  else
   some false:Option (Bool)).bind fun b1 =>
 some b1
set_option maxHeartbeats 4000000 in
theorem w_s_l02Fits (c_:Cat) (r:Bool) (h:s_s_l02Fits c_=some r):Contract Try.prog 33 [.agg (c_.cells true)] (.val (.bool r)):=by
 refine contract_introG (rvs:=[.tmp 2]) (rs:=[.val (.bool r)]) Try.func33 rfl rfl rfl rfl (by simp [Try.f33]) fun F hN hP=>?_
 unfold s_s_l02Fits at h
 refine w_seq ?_
 refine runQ hN fun K hK=>?_
 simp [-guardE_b,-Is_at,-Is_at',-Ls_at,-Ls_at',eL,eI,allInts,eP_Cat,Cat.cells]
 repeat with_reducible refine sdQ ?_
 refine hK _ ?_
 clear hK K
 refine tn ?_
 refine w_weak (st':=⟨[(1,.adr 0 0 0)],[(0,.mix 5 [(Cat.cells true c_)])],1⟩) (Wk.r1 [(0,0)] (by simp [hP,hhOk,back,Cat.cells,UA,U1,IA,I1,LA,L1,BA,B1,EA,E1,E2,eB,eI,eL])) ?_
 refine w_seq ?_
 replace h:=bind_some h
 obtain ⟨e1,h,h1⟩:=h
 refine w_joinT (fun b1:Bool=>⟨[(2,.val (.bool b1))],[],0⟩) (fun b1=>b1=e1) ?_ ?_
 ·refine runQ hN fun K hK=>?_
  simp [-guardE_b,-Is_at,-Is_at',-Ls_at,-Ls_at',eL,eI,allInts,eP_Cat,Cat.cells]
  repeat with_reducible refine sdQ ?_
  refine guard_intro (fun g=>?_) (fun g=>?_)
  ·have g2:c_.n≤8:=by first|simpa using g|(simp at g;exact g)|(simp at g;omega)
   clear g
   replace h:=if_l g2 h
   simp [-guardE_b,-Is_at,-Is_at',-Ls_at,-Ls_at',eL,eI,allInts,eP_Cat,Cat.cells]
   repeat with_reducible refine sdQ ?_
   refine hK _ ?_
   exact jn (b:=decide ((c_.fr.length:Int)≤40)) (Option.some.inj h) (Wk.r1 [] (by simp [hP,hhOk,back,Cat.cells,UA,U1,IA,I1,LA,L1,BA,B1,EA,E1,E2,eB,eI,eL]))
  have g2:¬ (c_.n≤8):=by first|simpa using g|(simp at g;exact g)|(simp at g;omega)
  clear g
  replace h:=if_r g2 h
  simp [-guardE_b,-Is_at,-Is_at',-Ls_at,-Ls_at',eL,eI,allInts,eP_Cat,Cat.cells]
  repeat with_reducible refine sdQ ?_
  refine hK _ ?_
  exact jn (b:=false) (Option.some.inj h) (Wk.r1 [] (by simp [hP,hhOk,back,Cat.cells,UA,U1,IA,I1,LA,L1,BA,B1,EA,E1,E2,eB,eI,eL]))
 intro b1 hb1
 have h:=h1
 rw [← hb1] at h
 clear h1
 try dsimp only at h
 refine w_ret ?_
 have hr:=Option.some.inj h
 rw [← hr]
 refine ⟨_,(.tmp .nil),?_⟩
 refine ⟨(.one rfl rfl .nil),[.val (.bool b1)],[],by simp [Cat.cells,UA,U1,IA,I1,LA,L1,BA,B1,EA,E1,E2,eB,eI,eL],by simp,(UpL.refl _)⟩
end Go.Vc.T
namespace Go.Vc.T
open Go Go.Vc Go.Proofs
noncomputable def s_s_l16Bind (m_:Mnd) (z_:Int) (f_:Int) (g_:Int):Option Int :=
 ass (0≤g_∧g_<(m_.f.ar.length:Int)) <|
 (s_s_l02Then m_.f.s f_ (ix m_.f.ar g_)).bind fun v2 =>
 ass (0≤z_∧z_<(m_.j.length:Int)) <|
 (s_s_l02Then m_.f.s v2 (ix m_.j z_)).bind fun v4 =>
 some v4
set_option maxHeartbeats 4000000 in
theorem w_s_l16Bind (m_:Mnd) (z_:Int) (f_:Int) (g_:Int) (r:Int) (h:s_s_l16Bind m_ z_ f_ g_=some r):Contract Try.prog 47 [.agg (m_.cells true),.val (.int .i64 z_),.val (.int .i64 f_),.val (.int .i64 g_)] (.val (.int .i64 r)):=by
 refine contract_introG (rvs:=[.tmp 8]) (rs:=[.val (.int .i64 r)]) Try.func47 rfl rfl rfl rfl (by simp [Try.f47]) fun F hN hP=>?_
 unfold s_s_l16Bind at h
 refine w_seq ?_
 refine runQ hN fun K hK=>?_
 simp [-guardE_b,-Is_at,-Is_at',-Ls_at,-Ls_at',eL,eI,allInts,eP_Cat,eP_Mnd,Cat.cells,Mnd.cells]
 repeat with_reducible refine sdQ ?_
 refine hK _ ?_
 clear hK K
 refine tn ?_
 refine w_weak (st':=⟨[(1,.val (.int .i64 z_)),(2,.val (.int .i64 f_)),(3,.val (.int .i64 g_)),(4,.adr 0 0 0)],[(0,.mix 14 [(Mnd.cells true m_)])],1⟩) (Wk.r1 [(0,0)] (by simp [hP,hhOk,back,Cat.cells,Mnd.cells,UA,U1,IA,I1,LA,L1,BA,B1,EA,E1,E2,eB,eI,eL])) ?_
 refine w_seq ?_
 refine runQ hN fun K hK=>?_
 simp [-guardE_b,-Is_at,-Is_at',-Ls_at,-Ls_at',eL,eI,allInts,eP_Cat,eP_Mnd,Cat.cells,Mnd.cells]
 repeat with_reducible refine sdQ ?_
 refine hK _ ?_
 clear hK K
 refine tn ?_
 refine w_weak (st':=⟨[(1,.val (.int .i64 z_)),(2,.val (.int .i64 f_)),(3,.val (.int .i64 g_)),(4,.adr 0 0 0),(9,.adr 1 0 0)],[(0,.mix 14 [(Mnd.cells true m_)]),(1,.mix 5 [(Cat.cells true m_.f.s)])],2⟩) (Wk.r1 [(0,0),(1,1)] (by simp [hP,hhOk,back,Cat.cells,Mnd.cells,UA,U1,IA,I1,LA,L1,BA,B1,EA,E1,E2,eB,eI,eL])) ?_
 refine w_seq ?_
 refine runQ hN fun K hK=>?_
 replace h:=ass_some h
 obtain ⟨a1,h⟩:=h
 simp [-guardE_b,-Is_at,-Is_at',-Ls_at,-Ls_at',eL,eI,allInts,eP_Cat,eP_Mnd,Cat.cells,Mnd.cells,at_I a1]
 repeat with_reducible refine sdQ ?_
 replace h:=bind_some h
 obtain ⟨v2,hv2,h⟩:=h
 refine callA_intro (w_s_l02Then _ _ _ v2 hv2) (.cons (.aggL (.cons .val (.cons .lst (.cons .lst (.cons .lst (.cons .lst .nil)))))) (.cons .val (.cons .val .nil))) ?_
 replace h:=ass_some h
 obtain ⟨a3,h⟩:=h
 simp [-guardE_b,-Is_at,-Is_at',-Ls_at,-Ls_at',unk,unA,unE,unT,unC,flat,eL,eI,allInts,eP_Cat,eP_Mnd,Cat.cells,Mnd.cells,at_I a1,at_I a3]
 repeat with_reducible refine sdQ ?_
 replace h:=bind_some h
 obtain ⟨v4,hv4,h⟩:=h
 refine callA_intro (w_s_l02Then _ _ _ v4 hv4) (.cons (.aggL (.cons .val (.cons .lst (.cons .lst (.cons .lst (.cons .lst .nil)))))) (.cons .val (.cons .val .nil))) ?_
 simp [-guardE_b,-Is_at,-Is_at',-Ls_at,-Ls_at',unk,unA,unE,unT,unC,flat,eL,eI,allInts,eP_Cat,eP_Mnd,Cat.cells,Mnd.cells,at_I a1,at_I a3]
 repeat with_reducible refine sdQ ?_
 refine hK _ ?_
 clear hK K
 refine tn ?_
 refine w_weak (st':=⟨[(8,.val (.int .i64 v4))],[],0⟩) (Wk.r1 [] (by simp [hP,hhOk,back,Cat.cells,Mnd.cells,UA,U1,IA,I1,LA,L1,BA,B1,EA,E1,E2,eB,eI,eL])) ?_
 refine w_ret ?_
 have hr:=Option.some.inj h
 rw [← hr]
 refine ⟨_,(.tmp .nil),?_⟩
 refine ⟨(.one rfl rfl .nil),[.val (.int .i64 v4)],[],by simp [Cat.cells,Mnd.cells,UA,U1,IA,I1,LA,L1,BA,B1,EA,E1,E2,eB,eI,eL],by simp,(UpL.refl _)⟩
end Go.Vc.T
namespace Go.Vc.T
open Go Go.Vc Go.Proofs
noncomputable def s_s_l16Kleisli (m_:Mnd):Option (Cat × List (List Int)) :=
 (loopF (σ:=List (List Int) × Int) (ε:=List (List Int)) (fun s34 =>
  if s34.2<m_.f.s.n then
   (
    (loopF (σ:=List (List Int) × Int) (ε:=List (List Int)) (fun s51 =>
     if s51.2<m_.f.s.n then
      (
       ass (0≤s51.2∧s51.2<(m_.f.ob.length:Int)) <|
       (s_s_l02Hom m_.f.s s34.2 (ix m_.f.ob s51.2)).bind fun v55 =>
       (loopF (σ:=List (List Int) × Int) (ε:=List (List Int)) (fun s60 =>
        if s60.2<(v55.length:Int) then
         ass (0≤s60.2∧s60.2<(v55.length:Int)) <|
         ass ((s60.1++[[s34.2,s51.2,ix v55 s60.2]]).length≤1073741824) <|
         ass (B64 (s60.2+1)) <|
         some (Ctl.next (s60.1++[[s34.2,s51.2,ix v55 s60.2]],s60.2+1))
        else
         some (Ctl.ret s60.1)) fuel (s51.1,0)).bind fun p60 =>
       some p60:Option (List (List Int))).bind fun b53 =>
      ass (B64 (s51.2+1)) <|
      some (Ctl.next (b53,s51.2+1))
     else
      some (Ctl.ret s51.1)) fuel (s34.1,0)).bind fun p51 =>
    some p51:Option (List (List Int))).bind fun b36 =>
   ass (B64 (s34.2+1)) <|
   some (Ctl.next (b36,s34.2+1))
  else
   some (Ctl.ret s34.1)) fuel ([],0)).bind fun b1 =>
 (s_s_l09Column b1 0).bind fun v67 =>
 (s_s_l09Column b1 1).bind fun v68 =>
 (loopF (σ:=List Int × Int) (ε:=List Int) (fun s75 =>
  if s75.2<m_.f.s.n then
   ass (0≤s75.2∧s75.2<(m_.u.length:Int)) <|
   (s_s_l09Find b1 [s75.2,s75.2,ix m_.u s75.2]).bind fun v78 =>
   ass ((s75.1++[v78]).length≤1073741824) <|
   ass (B64 (s75.2+1)) <|
   some (Ctl.next (s75.1++[v78],s75.2+1))
  else
   some (Ctl.ret s75.1)) fuel ([],0)).bind fun b69 =>
 (loopF (σ:=List (List Int) × Int) (ε:=List (List Int)) (fun s122 =>
  (
   if s122.2<(b1.length:Int) then
    (s_s_l02Fits (⟨m_.f.s.n,v67,v68,b69,s122.1⟩:Cat)).bind fun v125 =>
    some v125
   else
    some false:Option (Bool)).bind fun b123 =>
  if b123=true then
   (loopF (σ:=List Int × Int) (ε:=List Int) (fun s144 =>
    if s144.2<(b1.length:Int) then
     ass (0≤s122.2∧s122.2<(b1.length:Int)) <|
     ass (0≤s144.2∧s144.2<(b1.length:Int)) <|
     ass ((0:Int)≤1∧1<((rx b1 s122.2).length:Int)) <|
     ass ((0:Int)≤0∧0<((rx b1 s144.2).length:Int)) <|
     (
      if (ix (rx b1 s122.2) 1)=(ix (rx b1 s144.2) 0) then
       ass ((0:Int)≤0∧0<((rx b1 s122.2).length:Int)) <|
       ass ((0:Int)≤1∧1<((rx b1 s144.2).length:Int)) <|
       ass ((0:Int)≤1∧1<((rx b1 s144.2).length:Int)) <|
       ass ((0:Int)≤2∧2<((rx b1 s122.2).length:Int)) <|
       ass ((0:Int)≤2∧2<((rx b1 s144.2).length:Int)) <|
       (s_s_l16Bind m_ (ix (rx b1 s144.2) 1) (ix (rx b1 s122.2) 2) (ix (rx b1 s144.2) 2)).bind fun v157 =>
       (s_s_l09Find b1 [ix (rx b1 s122.2) 0,ix (rx b1 s144.2) 1,v157]).bind fun v158 =>
       some v158
      else
       some (-1):Option (Int)).bind fun b150 =>
     ass ((s144.1++[b150]).length≤1073741824) <|
     ass (B64 (s144.2+1)) <|
     some (Ctl.next (s144.1++[b150],s144.2+1))
    else
     some (Ctl.ret s144.1)) fuel ([],0)).bind fun b127 =>
   ass ((s122.1++[b127]).length≤1073741824) <|
   ass (B64 (s122.2+1)) <|
   some (Ctl.next (s122.1++[b127],s122.2+1))
  else
   some (Ctl.ret s122.1)) fuel ([],0)).bind fun b81 =>
 some ((⟨m_.f.s.n,v67,v68,b69,b81⟩:Cat),b1)
set_option maxHeartbeats 4000000 in
theorem w_s_l16Kleisli (m_:Mnd) (r:Cat × List (List Int)) (h:s_s_l16Kleisli m_=some r):Contract Try.prog 32 [.agg (m_.cells true)] (.tup [.agg (r.1.cells true),.lst true 1 (Ls r.2)]):=by
 refine contract_introG (rvs:=[.cell 2 33,.tmp 3]) (rs:=[.agg (r.1.cells true),.lst true 1 (Ls r.2)]) Try.func32 rfl rfl rfl rfl (by simp [Try.f32]) fun F hN hP=>?_
 unfold s_s_l16Kleisli at h
 refine w_seq ?_
 refine runQ hN fun K hK=>?_
 simp [-guardE_b,-Is_at,-Is_at',-Ls_at,-Ls_at',eL,eI,allInts,eP_Cat,eP_Mnd,Cat.cells,Mnd.cells]
 repeat with_reducible refine sdQ ?_
 refine hK _ ?_
 clear hK K
 refine tn ?_
 refine w_weak (st':=⟨[(1,.adr 0 0 0),(2,.adr 1 0 0)],[(0,.mix 14 [(Mnd.cells true m_)]),(1,.mix 5 [[.val (.int .i64 0),.val (.slice none 0 0),.val (.slice none 0 0),.val (.slice none 0 0),.val (.slice none 0 0)]])],2⟩) (Wk.r1 [(0,0),(1,1)] (by simp [hP,hhOk,back,Cat.cells,Mnd.cells,UA,U1,IA,I1,LA,L1,BA,B1,EA,E1,E2,eB,eI,eL])) ?_
 refine w_seq ?_
 refine runQ hN fun K hK=>?_
 simp [-guardE_b,-Is_at,-Is_at',-Ls_at,-Ls_at',eL,eI,allInts,eP_Cat,eP_Mnd,Cat.cells,Mnd.cells]
 repeat with_reducible refine sdQ ?_
 refine hK _ ?_
 clear hK K
 refine tn ?_
 refine w_weak (st':=⟨[(1,.adr 0 0 0),(2,.adr 1 0 0),(4,.adr 2 0 0)],[(0,.mix 14 [(Mnd.cells true m_)]),(1,.mix 5 [[.val (.int .i64 0),.val (.slice none 0 0),.val (.slice none 0 0),.val (.slice none 0 0),.val (.slice none 0 0)]]),(2,.mix 5 [(Cat.cells true m_.f.s)])],3⟩) (Wk.r1 [(0,0),(1,1),(2,2)] (by simp [hP,hhOk,back,Cat.cells,Mnd.cells,UA,U1,IA,I1,LA,L1,BA,B1,EA,E1,E2,eB,eI,eL])) ?_
 refine w_seq ?_
 refine runQ hN fun K hK=>?_
 simp [-guardE_b,-Is_at,-Is_at',-Ls_at,-Ls_at',eL,eI,allInts,eP_Cat,eP_Mnd,Cat.cells,Mnd.cells]
 repeat with_reducible refine sdQ ?_
 refine hK _ ?_
 clear hK K
 refine tn ?_
 refine w_weak (st':=⟨[(1,.adr 0 0 0),(2,.adr 1 0 0),(4,.adr 2 0 0),(5,.own 3 0 0)],[(0,.mix 14 [(Mnd.cells true m_)]),(1,.mix 5 [[.val (.int .i64 0),.val (.slice none 0 0),.val (.slice none 0 0),.val (.slice none 0 0),.val (.slice none 0 0)]]),(2,.mix 5 [(Cat.cells true m_.f.s)]),(3,.mix 1 [])],4⟩) (Wk.r1 [(0,0),(1,1),(2,2),(3,3)] (by simp [hP,hhOk,back,Cat.cells,Mnd.cells,UA,U1,IA,I1,LA,L1,BA,B1,EA,E1,E2,eB,eI,eL])) ?_
 refine w_seq ?_
 refine w_seq ?_
 refine runQ hN fun K hK=>?_
 simp [-guardE_b,-Is_at,-Is_at',-Ls_at,-Ls_at',eL,eI,allInts,eP_Cat,eP_Mnd,Cat.cells,Mnd.cells]
 repeat with_reducible refine sdQ ?_
 refine hK _ ?_
 clear hK K
 refine tn ?_
 refine w_weak (st':=⟨[(1,.adr 0 0 0),(2,.adr 1 0 0),(4,.adr 2 0 0),(5,.own 3 0 0),(6,.val (.int .i64 0))],[(0,.mix 14 [(Mnd.cells true m_)]),(1,.mix 5 [[.val (.int .i64 0),.val (.slice none 0 0),.val (.slice none 0 0),.val (.slice none 0 0),.val (.slice none 0 0)]]),(2,.mix 5 [(Cat.cells true m_.f.s)]),(3,.mix 1 [])],4⟩) (Wk.r1 [(0,0),(1,1),(2,2),(3,3)] (by simp [hP,hhOk,back,Cat.cells,Mnd.cells,UA,U1,IA,I1,LA,L1,BA,B1,EA,E1,E2,eB,eI,eL])) ?_
 replace h:=bind_some h
 obtain ⟨e1,h,h1⟩:=h
 refine w_joinT (fun b1:List (List Int)=>⟨[(1,.adr 0 0 0),(2,.adr 1 0 0),(4,.adr 2 0 0),(5,.own 3 0 b1.length)],[(0,.mix 14 [(Mnd.cells true m_)]),(1,.mix 5 [[.val (.int .i64 0),.val (.slice none 0 0),.val (.slice none 0 0),.val (.slice none 0 0),.val (.slice none 0 0)]]),(2,.mix 5 [(Cat.cells true m_.f.s)]),(3,.row 1 (Ls b1))],4⟩) (fun b1=>b1=e1) ?_ ?_
 ·refine w_block ?_
  refine w_loopF h (fun s34:List (List Int) × Int=>⟨[(1,.adr 0 0 0),(2,.adr 1 0 0),(4,.adr 2 0 0),(5,.own 3 0 s34.1.length),(6,.val (.int .i64 s34.2))],[(0,.mix 14 [(Mnd.cells true m_)]),(1,.mix 5 [[.val (.int .i64 0),.val (.slice none 0 0),.val (.slice none 0 0),.val (.slice none 0 0),.val (.slice none 0 0)]]),(2,.mix 5 [(Cat.cells true m_.f.s)]),(3,.row 1 (Ls s34.1))],4⟩) (wk_tr ⟨[(1,.adr 0 0 0),(2,.adr 1 0 0),(4,.adr 2 0 0),(5,.own 3 0 0),(6,.val (.int .i64 0))],[(0,.mix 14 [(Mnd.cells true m_)]),(1,.mix 5 [[.val (.int .i64 0),.val (.slice none 0 0),.val (.slice none 0 0),.val (.slice none 0 0),.val (.slice none 0 0)]]),(2,.mix 5 [(Cat.cells true m_.f.s)]),(3,.row 1 (Ls []))],4⟩ (Wk.nils [] (by simp) (by simp) (by simp [nlA]) (by simp [entN,nlL,nlA,Cat.cells,Mnd.cells,UA,U1,IA,I1,LA,L1,BA,B1,EA,E1,E2,eB,eI,eL]) (by simp)) (Wk.r1 [(0,0),(1,1),(2,2),(3,3)] (by simp [hP,hhOk,back,Cat.cells,Mnd.cells,UA,U1,IA,I1,LA,L1,BA,B1,EA,E1,E2,eB,eI,eL]))) ?_
  clear h
  intro k34 s34 c34 h hk34
  refine w_seq ?_
  refine w_seq ?_
  refine runQ hN fun K hK=>?_
  simp [-guardE_b,-Is_at,-Is_at',-Ls_at,-Ls_at',eL,eI,allInts,eP_Cat,eP_Mnd,Cat.cells,Mnd.cells]
  repeat with_reducible refine sdQ ?_
  refine hK _ ?_
  clear hK K
  refine tn ?_
  refine w_weak (st':=⟨[(1,.adr 0 0 0),(2,.adr 1 0 0),(4,.adr 2 0 0),(5,.own 3 0 s34.1.length),(6,.val (.int .i64 s34.2)),(25,.val (.bool (decide (s34.2<m_.f.s.n))))],[(0,.mix 14 [(Mnd.cells true m_)]),(1,.mix 5 [[.val (.int .i64 0),.val (.slice none 0 0),.val (.slice none 0 0),.val (.slice none 0 0),.val (.slice none 0 0)]]),(2,.mix 5 [(Cat.cells true m_.f.s)]),(3,.row 1 (Ls s34.1))],4⟩) (Wk.r1 [(0,0),(1,1),(2,2),(3,3)] (by simp [hP,hhOk,back,Cat.cells,Mnd.cells,UA,U1,IA,I1,LA,L1,BA,B1,EA,E1,E2,eB,eI,eL])) ?_
  refine w_cond rfl (fun g=>?_) fun g=>?_
  ·have g35:s34.2<m_.f.s.n:=by first|simpa using g|(simp at g;exact g)|(simp at g;omega)
   clear g
   replace h:=if_l g35 h
   refine w_skip ?_
   refine tn ?_
   refine w_seq ?_
   replace h:=bind_some h
   obtain ⟨e36,h,h36⟩:=h
   refine w_joinT (fun b36:List (List Int)=>⟨[(1,.adr 0 0 0),(2,.adr 1 0 0),(4,.adr 2 0 0),(5,.own 3 0 b36.length),(6,.val (.int .i64 s34.2))],[(0,.mix 14 [(Mnd.cells true m_)]),(1,.mix 5 [[.val (.int .i64 0),.val (.slice none 0 0),.val (.slice none 0 0),.val (.slice none 0 0),.val (.slice none 0 0)]]),(2,.mix 5 [(Cat.cells true m_.f.s)]),(3,.row 1 (Ls b36))],4⟩) (fun b36=>b36=e36) ?_ ?_
   ·refine w_block ?_
    refine w_seq ?_
    refine runQ hN fun K hK=>?_
    simp [-guardE_b,-Is_at,-Is_at',-Ls_at,-Ls_at',eL,eI,allInts,eP_Cat,eP_Mnd,Cat.cells,Mnd.cells]
    repeat with_reducible refine sdQ ?_
    refine hK _ ?_
    clear hK K
    refine tn ?_
    refine w_weak (st':=⟨[(1,.adr 0 0 0),(2,.adr 1 0 0),(4,.adr 2 0 0),(5,.own 3 0 s34.1.length),(6,.val (.int .i64 s34.2)),(7,.val (.int .i64 0))],[(0,.mix 14 [(Mnd.cells true m_)]),(1,.mix 5 [[.val (.int .i64 0),.val (.slice none 0 0),.val (.slice none 0 0),.val (.slice none 0 0),.val (.slice none 0 0)]]),(2,.mix 5 [(Cat.cells true m_.f.s)]),(3,.row 1 (Ls s34.1))],4⟩) (Wk.r1 [(0,0),(1,1),(2,2),(3,3)] (by simp [hP,hhOk,back,Cat.cells,Mnd.cells,UA,U1,IA,I1,LA,L1,BA,B1,EA,E1,E2,eB,eI,eL])) ?_
    refine w_block ?_
    replace h:=bind_some h
    obtain ⟨e51,he51,h51⟩:=h
    refine w_loopF he51 (fun s51:List (List Int) × Int=>⟨[(1,.adr 0 0 0),(2,.adr 1 0 0),(4,.adr 2 0 0),(5,.own 3 0 s51.1.length),(6,.val (.int .i64 s34.2)),(7,.val (.int .i64 s51.2))],[(0,.mix 14 [(Mnd.cells true m_)]),(1,.mix 5 [[.val (.int .i64 0),.val (.slice none 0 0),.val (.slice none 0 0),.val (.slice none 0 0),.val (.slice none 0 0)]]),(2,.mix 5 [(Cat.cells true m_.f.s)]),(3,.row 1 (Ls s51.1))],4⟩) (Wk.r1 [(0,0),(1,1),(2,2),(3,3)] (by simp [hP,hhOk,back,Cat.cells,Mnd.cells,UA,U1,IA,I1,LA,L1,BA,B1,EA,E1,E2,eB,eI,eL])) ?_
    intro k51 s51 c51 h hk51
    refine w_seq ?_
    refine w_seq ?_
    refine runQ hN fun K hK=>?_
    simp [-guardE_b,-Is_at,-Is_at',-Ls_at,-Ls_at',eL,eI,allInts,eP_Cat,eP_Mnd,Cat.cells,Mnd.cells]
    repeat with_reducible refine sdQ ?_
    refine hK _ ?_
    clear hK K
    refine tn ?_
    refine w_weak (st':=⟨[(1,.adr 0 0 0),(2,.adr 1 0 0),(4,.adr 2 0 0),(5,.own 3 0 s51.1.length),(6,.val (.int .i64 s34.2)),(7,.val (.int .i64 s51.2)),(31,.val (.bool (decide (s51.2<m_.f.s.n))))],[(0,.mix 14 [(Mnd.cells true m_)]),(1,.mix 5 [[.val (.int .i64 0),.val (.slice none 0 0),.val (.slice none 0 0),.val (.slice none 0 0),.val (.slice none 0 0)]]),(2,.mix 5 [(Cat.cells true m_.f.s)]),(3,.row 1 (Ls s51.1))],4⟩) (Wk.r1 [(0,0),(1,1),(2,2),(3,3)] (by simp [hP,hhOk,back,Cat.cells,Mnd.cells,UA,U1,IA,I1,LA,L1,BA,B1,EA,E1,E2,eB,eI,eL])) ?_
    refine w_cond rfl (fun g=>?_) fun g=>?_
    ·have g52:s51.2<m_.f.s.n:=by first|simpa using g|(simp at g;exact g)|(simp at g;omega)
     clear g
     replace h:=if_l g52 h
     refine w_skip ?_
     refine tn ?_
     refine w_seq ?_
     replace h:=bind_some h
     obtain ⟨e53,h,h53⟩:=h
     refine w_joinT (fun b53:List (List Int)=>⟨[(1,.adr 0 0 0),(2,.adr 1 0 0),(4,.adr 2 0 0),(5,.own 3 0 b53.length),(6,.val (.int .i64 s34.2)),(7,.val (.int .i64 s51.2))],[(0,.mix 14 [(Mnd.cells true m_)]),(1,.mix 5 [[.val (.int .i64 0),.val (.slice none 0 0),.val (.slice none 0 0),.val (.slice none 0 0),.val (.slice none 0 0)]]),(2,.mix 5 [(Cat.cells true m_.f.s)]),(3,.row 1 (Ls b53))],4⟩) (fun b53=>b53=e53) ?_ ?_
     ·refine w_block ?_
      refine w_seq ?_
      refine runQ hN fun K hK=>?_
      replace h:=ass_some h
      obtain ⟨a54,h⟩:=h
      simp [-guardE_b,-Is_at,-Is_at',-Ls_at,-Ls_at',eL,eI,allInts,eP_Cat,eP_Mnd,Cat.cells,Mnd.cells,at_I a54]
      repeat with_reducible refine sdQ ?_
      replace h:=bind_some h
      obtain ⟨v55,hv55,h⟩:=h
      refine callA_intro (w_s_l02Hom _ _ _ v55 hv55) (.cons (.aggL (.cons .val (.cons .lst (.cons .lst (.cons .lst (.cons .lst .nil)))))) (.cons .val (.cons .val .nil))) ?_
      simp [-guardE_b,-Is_at,-Is_at',-Ls_at,-Ls_at',unk,unA,unE,unT,unC,flat,eL,eI,allInts,eP_Cat,eP_Mnd,Cat.cells,Mnd.cells,at_I a54]
      repeat with_reducible refine sdQ ?_
      refine hK _ ?_
      clear hK K
      refine tn ?_
      refine w_weak (st':=⟨[(1,.adr 0 0 0),(2,.adr 1 0 0),(4,.adr 2 0 0),(5,.own 3 0 s51.1.length),(6,.val (.int .i64 s34.2)),(7,.val (.int .i64 s51.2)),(8,.own 4 0 v55.length)],[(0,.mix 14 [(Mnd.cells true m_)]),(1,.mix 5 [[.val (.int .i64 0),.val (.slice none 0 0),.val (.slice none 0 0),.val (.slice none 0 0),.val (.slice none 0 0)]]),(2,.mix 5 [(Cat.cells true m_.f.s)]),(3,.row 1 (Ls s51.1)),(4,.row 1 (Is v55))],5⟩) (Wk.r1 [(0,0),(1,1),(2,2),(3,3),(4,4)] (by simp [hP,hhOk,back,Cat.cells,Mnd.cells,UA,U1,IA,I1,LA,L1,BA,B1,EA,E1,E2,eB,eI,eL])) ?_
      refine w_seq ?_
      refine runQ hN fun K hK=>?_
      simp [-guardE_b,-Is_at,-Is_at',-Ls_at,-Ls_at',eL,eI,allInts,eP_Cat,eP_Mnd,Cat.cells,Mnd.cells]
      repeat with_reducible refine sdQ ?_
      refine hK _ ?_
      clear hK K
      refine tn ?_
      refine w_weak (st':=⟨[(1,.adr 0 0 0),(2,.adr 1 0 0),(4,.adr 2 0 0),(5,.own 3 0 s51.1.length),(6,.val (.int .i64 s34.2)),(7,.val (.int .i64 s51.2)),(8,.own 4 0 v55.length),(9,.val (.int .i64 0))],[(0,.mix 14 [(Mnd.cells true m_)]),(1,.mix 5 [[.val (.int .i64 0),.val (.slice none 0 0),.val (.slice none 0 0),.val (.slice none 0 0),.val (.slice none 0 0)]]),(2,.mix 5 [(Cat.cells true m_.f.s)]),(3,.row 1 (Ls s51.1)),(4,.row 1 (Is v55))],5⟩) (Wk.r1 [(0,0),(1,1),(2,2),(3,3),(4,4)] (by simp [hP,hhOk,back,Cat.cells,Mnd.cells,UA,U1,IA,I1,LA,L1,BA,B1,EA,E1,E2,eB,eI,eL])) ?_
      refine w_block ?_
      replace h:=bind_some h
      obtain ⟨e60,he60,h60⟩:=h
      refine w_loopF he60 (fun s60:List (List Int) × Int=>⟨[(1,.adr 0 0 0),(2,.adr 1 0 0),(4,.adr 2 0 0),(5,.own 3 0 s60.1.length),(6,.val (.int .i64 s34.2)),(7,.val (.int .i64 s51.2)),(8,.own 4 0 v55.length),(9,.val (.int .i64 s60.2))],[(0,.mix 14 [(Mnd.cells true m_)]),(1,.mix 5 [[.val (.int .i64 0),.val (.slice none 0 0),.val (.slice none 0 0),.val (.slice none 0 0),.val (.slice none 0 0)]]),(2,.mix 5 [(Cat.cells true m_.f.s)]),(3,.row 1 (Ls s60.1)),(4,.row 1 (Is v55))],5⟩) (Wk.r1 [(0,0),(1,1),(2,2),(3,3),(4,4)] (by simp [hP,hhOk,back,Cat.cells,Mnd.cells,UA,U1,IA,I1,LA,L1,BA,B1,EA,E1,E2,eB,eI,eL])) ?_
      intro k60 s60 c60 h hk60
      refine w_seq ?_
      refine w_seq ?_
      refine runQ hN fun K hK=>?_
      simp [-guardE_b,-Is_at,-Is_at',-Ls_at,-Ls_at',eL,eI,allInts,eP_Cat,eP_Mnd,Cat.cells,Mnd.cells]
      repeat with_reducible refine sdQ ?_
      refine hK _ ?_
      clear hK K
      refine tn ?_
      refine w_weak (st':=⟨[(1,.adr 0 0 0),(2,.adr 1 0 0),(4,.adr 2 0 0),(5,.own 3 0 s60.1.length),(6,.val (.int .i64 s34.2)),(7,.val (.int .i64 s51.2)),(8,.own 4 0 v55.length),(9,.val (.int .i64 s60.2)),(46,.val (.bool (decide (s60.2<(v55.length:Int)))))],[(0,.mix 14 [(Mnd.cells true m_)]),(1,.mix 5 [[.val (.int .i64 0),.val (.slice none 0 0),.val (.slice none 0 0),.val (.slice none 0 0),.val (.slice none 0 0)]]),(2,.mix 5 [(Cat.cells true m_.f.s)]),(3,.row 1 (Ls s60.1)),(4,.row 1 (Is v55))],5⟩) (Wk.r1 [(0,0),(1,1),(2,2),(3,3),(4,4)] (by simp [hP,hhOk,back,Cat.cells,Mnd.cells,UA,U1,IA,I1,LA,L1,BA,B1,EA,E1,E2,eB,eI,eL])) ?_
      refine w_cond rfl (fun g=>?_) fun g=>?_
      ·have g61:s60.2<(v55.length:Int):=by first|simpa using g|(simp at g;exact g)|(simp at g;omega)
       clear g
       replace h:=if_l g61 h
       refine w_skip ?_
       refine tn ?_
       refine w_seq ?_
       refine w_block ?_
       refine runQ hN fun K hK=>?_
       replace h:=ass_some h
       obtain ⟨a62,h⟩:=h
       replace h:=ass_some h
       obtain ⟨a63,h⟩:=h
       try simp only [List.length_append,List.length_cons,List.length_nil] at a63
       simp [-guardE_b,-Is_at,-Is_at',-Ls_at,-Ls_at',eL,eI,allInts,eP_Cat,eP_Mnd,Cat.cells,Mnd.cells,at_I a62,a63]
       repeat with_reducible refine sdQ ?_
       refine hK _ ?_
       clear hK K
       refine bn ?_
       refine tn ?_
       refine w_weak (st':=⟨[(1,.adr 0 0 0),(2,.adr 1 0 0),(4,.adr 2 0 0),(5,.own 3 0 ((s60.1++[[s34.2,s51.2,ix v55 s60.2]]).length)),(6,.val (.int .i64 s34.2)),(7,.val (.int .i64 s51.2)),(8,.own 4 0 v55.length),(9,.val (.int .i64 s60.2))],[(0,.mix 14 [(Mnd.cells true m_)]),(1,.mix 5 [[.val (.int .i64 0),.val (.slice none 0 0),.val (.slice none 0 0),.val (.slice none 0 0),.val (.slice none 0 0)]]),(2,.mix 5 [(Cat.cells true m_.f.s)]),(3,.row 1 (Ls (s60.1++[[s34.2,s51.2,ix v55 s60.2]]))),(4,.row 1 (Is v55))],5⟩) (Wk.r1 [(0,0),(1,1),(2,2),(8,3),(4,4)] (by simp [hP,hhOk,back,Cat.cells,Mnd.cells,UA,U1,IA,I1,LA,L1,BA,B1,EA,E1,E2,eB,eI,eL])) ?_
       refine runQ hN fun K hK=>?_
       replace h:=ass_some h
       obtain ⟨a64,h⟩:=h
       simp [-guardE_b,-Is_at,-Is_at',-Ls_at,-Ls_at',eL,eI,allInts,eP_Cat,eP_Mnd,Cat.cells,Mnd.cells,wrap_id a64]
       repeat with_reducible refine sdQ ?_
       refine hK _ ?_
       clear hK K
       cases h
       exact rn (s':=(s60.1++[[s34.2,s51.2,ix v55 s60.2]],s60.2+1)) hk60 (Wk.r1 [(0,0),(1,1),(2,2),(3,3),(4,4)] (by simp [hP,hhOk,back,Cat.cells,Mnd.cells,UA,U1,IA,I1,LA,L1,BA,B1,EA,E1,E2,eB,eI,eL]))
      have g61:¬ (s60.2<(v55.length:Int)):=by first|simpa using g|(simp at g;exact g)|(simp at g;omega)
      clear g
      replace h:=if_r g61 h
      refine w_exit ?_
      refine tx ?_
      refine lx ?_
      refine bh ?_
      refine bn ?_
      cases h
      have q:_=e60:=hk60
      have h:=h60
      rw [← q] at h
      clear q
      try dsimp only at h
      exact jn (b:=s60.1) (Option.some.inj h) (Wk.r1 [(0,0),(1,1),(2,2),(3,3)] (by simp [hP,hhOk,back,Cat.cells,Mnd.cells,UA,U1,IA,I1,LA,L1,BA,B1,EA,E1,E2,eB,eI,eL]))
     intro b53 hb53
     have h:=h53
     rw [← hb53] at h
     clear h53
     try dsimp only at h
     refine runQ hN fun K hK=>?_
     replace h:=ass_some h
     obtain ⟨a65,h⟩:=h
     simp [-guardE_b,-Is_at,-Is_at',-Ls_at,-Ls_at',eL,eI,allInts,eP_Cat,eP_Mnd,Cat.cells,Mnd.cells,wrap_id a65]
     repeat with_reducible refine sdQ ?_
     refine hK _ ?_
     clear hK K
     cases h
     exact rn (s':=(b53,s51.2+1)) hk51 (Wk.r1 [(0,0),(1,1),(2,2),(3,3)] (by simp [hP,hhOk,back,Cat.cells,Mnd.cells,UA,U1,IA,I1,LA,L1,BA,B1,EA,E1,E2,eB,eI,eL]))
    have g52:¬ (s51.2<m_.f.s.n):=by first|simpa using g|(simp at g;exact g)|(simp at g;omega)
    clear g
    replace h:=if_r g52 h
    refine w_exit ?_
    refine tx ?_
    refine lx ?_
    refine bh ?_
    refine bn ?_
    cases h
    have q:_=e51:=hk51
    have h:=h51
    rw [← q] at h
    clear q
    try dsimp only at h
    exact jn (b:=s51.1) (Option.some.inj h) (Wk.r1 [(0,0),(1,1),(2,2),(3,3)] (by simp [hP,hhOk,back,Cat.cells,Mnd.cells,UA,U1,IA,I1,LA,L1,BA,B1,EA,E1,E2,eB,eI,eL]))
   intro b36 hb36
   have h:=h36
   rw [← hb36] at h
   clear h36
   try dsimp only at h
   refine runQ hN fun K hK=>?_
   replace h:=ass_some h
   obtain ⟨a66,h⟩:=h
   simp [-guardE_b,-Is_at,-Is_at',-Ls_at,-Ls_at',eL,eI,allInts,eP_Cat,eP_Mnd,Cat.cells,Mnd.cells,wrap_id a66]
   repeat with_reducible refine sdQ ?_
   refine hK _ ?_
   clear hK K
   cases h
   exact rn (s':=(b36,s34.2+1)) hk34 (Wk.r1 [(0,0),(1,1),(2,2),(3,3)] (by simp [hP,hhOk,back,Cat.cells,Mnd.cells,UA,U1,IA,I1,LA,L1,BA,B1,EA,E1,E2,eB,eI,eL]))
  have g35:¬ (s34.2<m_.f.s.n):=by first|simpa using g|(simp at g;exact g)|(simp at g;omega)
  clear g
  replace h:=if_r g35 h
  refine w_exit ?_
  refine tx ?_
  refine lx ?_
  refine bh ?_
  cases h
  exact jn (b:=s34.1) hk34 (Wk.r1 [(0,0),(1,1),(2,2),(3,3)] (by simp [hP,hhOk,back,Cat.cells,Mnd.cells,UA,U1,IA,I1,LA,L1,BA,B1,EA,E1,E2,eB,eI,eL]))
 intro b1 hb1
 have h:=h1
 rw [← hb1] at h
 clear h1
 try dsimp only at h
 refine w_seq ?_
 refine runQ hN fun K hK=>?_
 simp [-guardE_b,-Is_at,-Is_at',-Ls_at,-Ls_at',eL,eI,allInts,eP_Cat,eP_Mnd,Cat.cells,Mnd.cells]
 repeat with_reducible refine sdQ ?_
 replace h:=bind_some h
 obtain ⟨v67,hv67,h⟩:=h
 refine callA_intro (w_s_l09Column _ _ v67 hv67) (.cons (.whole (by simp) (by simp) (by simp)) (.cons .val .nil)) ?_
 simp [-guardE_b,-Is_at,-Is_at',-Ls_at,-Ls_at',unk,unA,unE,unT,unC,flat,eL,eI,allInts,eP_Cat,eP_Mnd,Cat.cells,Mnd.cells]
 repeat with_reducible refine sdQ ?_
 replace h:=bind_some h
 obtain ⟨v68,hv68,h⟩:=h
 refine callA_intro (w_s_l09Column _ _ v68 hv68) (.cons (.whole (by simp) (by simp) (by simp)) (.cons .val .nil)) ?_
 simp [-guardE_b,-Is_at,-Is_at',-Ls_at,-Ls_at',unk,unA,unE,unT,unC,flat,eL,eI,allInts,eP_Cat,eP_Mnd,Cat.cells,Mnd.cells]
 repeat with_reducible refine sdQ ?_
 refine hK _ ?_
 clear hK K
 refine tn ?_
 refine w_weak (st':=⟨[(1,.adr 0 0 0),(2,.adr 1 0 0),(4,.adr 2 0 0),(5,.own 3 0 b1.length),(10,.adr 4 0 0)],[(0,.mix 14 [(Mnd.cells true m_)]),(1,.mix 5 [[.val (.int .i64 0),.val (.slice none 0 0),.val (.slice none 0 0),.val (.slice none 0 0),.val (.slice none 0 0)]]),(2,.mix 5 [(Cat.cells true m_.f.s)]),(3,.row 1 (Ls b1)),(4,.mix 5 [[.val (.int .i64 m_.f.s.n),.own 5 0 v67.length,.own 6 0 v68.length,.own 7 0 0,.own 8 0 0]]),(5,.row 1 (Is v67)),(6,.row 1 (Is v68)),(7,.mix 1 []),(8,.mix 1 [])],9⟩) (Wk.r1 [(0,0),(1,1),(2,2),(3,3),(8,4),(4,5),(5,6),(6,7),(7,8)] (by simp [hP,hhOk,back,Cat.cells,Mnd.cells,UA,U1,IA,I1,LA,L1,BA,B1,EA,E1,E2,eB,eI,eL])) ?_
 refine w_seq ?_
 refine w_seq ?_
 refine runQ hN fun K hK=>?_
 simp [-guardE_b,-Is_at,-Is_at',-Ls_at,-Ls_at',eL,eI,allInts,eP_Cat,eP_Mnd,Cat.cells,Mnd.cells]
 repeat with_reducible refine sdQ ?_
 refine hK _ ?_
 clear hK K
 refine tn ?_
 refine w_weak (st':=⟨[(1,.adr 0 0 0),(2,.adr 1 0 0),(4,.adr 2 0 0),(5,.own 3 0 b1.length),(10,.adr 4 0 0),(11,.val (.int .i64 0))],[(0,.mix 14 [(Mnd.cells true m_)]),(1,.mix 5 [[.val (.int .i64 0),.val (.slice none 0 0),.val (.slice none 0 0),.val (.slice none 0 0),.val (.slice none 0 0)]]),(2,.mix 5 [(Cat.cells true m_.f.s)]),(3,.row 1 (Ls b1)),(4,.mix 5 [[.val (.int .i64 m_.f.s.n),.own 5 0 v67.length,.own 6 0 v68.length,.own 7 0 0,.own 8 0 0]]),(5,.row 1 (Is v67)),(6,.row 1 (Is v68)),(7,.mix 1 []),(8,.mix 1 [])],9⟩) (Wk.r1 [(0,0),(1,1),(2,2),(3,3),(4,4),(5,5),(6,6),(7,7),(8,8)] (by simp [hP,hhOk,back,Cat.cells,Mnd.cells,UA,U1,IA,I1,LA,L1,BA,B1,EA,E1,E2,eB,eI,eL])) ?_
 replace h:=bind_some h
 obtain ⟨e69,h,h69⟩:=h
 refine w_joinT (fun b69:List Int=>⟨[(1,.adr 0 0 0),(2,.adr 1 0 0),(5,.own 2 0 b1.length),(10,.adr 3 0 0)],[(0,.mix 14 [(Mnd.cells true m_)]),(1,.mix 5 [[.val (.int .i64 0),.val (.slice none 0 0),.val (.slice none 0 0),.val (.slice none 0 0),.val (.slice none 0 0)]]),(2,.row 1 (Ls b1)),(3,.mix 5 [[.val (.int .i64 m_.f.s.n),.own 4 0 v67.length,.own 5 0 v68.length,.own 6 0 b69.length,.own 7 0 0]]),(4,.row 1 (Is v67)),(5,.row 1 (Is v68)),(6,.row 1 (Is b69)),(7,.mix 1 [])],8⟩) (fun b69=>b69=e69) ?_ ?_
 ·refine w_block ?_
  refine w_loopF h (fun s75:List Int × Int=>⟨[(1,.adr 0 0 0),(2,.adr 1 0 0),(4,.adr 2 0 0),(5,.own 3 0 b1.length),(10,.adr 4 0 0),(11,.val (.int .i64 s75.2))],[(0,.mix 14 [(Mnd.cells true m_)]),(1,.mix 5 [[.val (.int .i64 0),.val (.slice none 0 0),.val (.slice none 0 0),.val (.slice none 0 0),.val (.slice none 0 0)]]),(2,.mix 5 [(Cat.cells true m_.f.s)]),(3,.row 1 (Ls b1)),(4,.mix 5 [[.val (.int .i64 m_.f.s.n),.own 5 0 v67.length,.own 6 0 v68.length,.own 7 0 s75.1.length,.own 8 0 0]]),(5,.row 1 (Is v67)),(6,.row 1 (Is v68)),(7,.row 1 (Is s75.1)),(8,.mix 1 [])],9⟩) (wk_tr ⟨[(1,.adr 0 0 0),(2,.adr 1 0 0),(4,.adr 2 0 0),(5,.own 3 0 b1.length),(10,.adr 4 0 0),(11,.val (.int .i64 0))],[(0,.mix 14 [(Mnd.cells true m_)]),(1,.mix 5 [[.val (.int .i64 0),.val (.slice none 0 0),.val (.slice none 0 0),.val (.slice none 0 0),.val (.slice none 0 0)]]),(2,.mix 5 [(Cat.cells true m_.f.s)]),(3,.row 1 (Ls b1)),(4,.mix 5 [[.val (.int .i64 m_.f.s.n),.own 5 0 v67.length,.own 6 0 v68.length,.own 7 0 0,.own 8 0 0]]),(5,.row 1 (Is v67)),(6,.row 1 (Is v68)),(7,.row 1 (Is [])),(8,.mix 1 [])],9⟩ (Wk.nils [] (by simp) (by simp) (by simp [nlA]) (by simp [entN,nlL,nlA,Cat.cells,Mnd.cells,UA,U1,IA,I1,LA,L1,BA,B1,EA,E1,E2,eB,eI,eL]) (by simp)) (Wk.r1 [(0,0),(1,1),(2,2),(3,3),(4,4),(5,5),(6,6),(7,7),(8,8)] (by simp [hP,hhOk,back,Cat.cells,Mnd.cells,UA,U1,IA,I1,LA,L1,BA,B1,EA,E1,E2,eB,eI,eL]))) ?_
  clear h
  intro k75 s75 c75 h hk75
  refine w_seq ?_
  refine w_seq ?_
  refine runQ hN fun K hK=>?_
  simp [-guardE_b,-Is_at,-Is_at',-Ls_at,-Ls_at',eL,eI,allInts,eP_Cat,eP_Mnd,Cat.cells,Mnd.cells]
  repeat with_reducible refine sdQ ?_
  refine hK _ ?_
  clear hK K
  refine tn ?_
  refine w_weak (st':=⟨[(1,.adr 0 0 0),(2,.adr 1 0 0),(4,.adr 2 0 0),(5,.own 3 0 b1.length),(10,.adr 4 0 0),(11,.val (.int .i64 s75.2)),(71,.val (.bool (decide (s75.2<m_.f.s.n))))],[(0,.mix 14 [(Mnd.cells true m_)]),(1,.mix 5 [[.val (.int .i64 0),.val (.slice none 0 0),.val (.slice none 0 0),.val (.slice none 0 0),.val (.slice none 0 0)]]),(2,.mix 5 [(Cat.cells true m_.f.s)]),(3,.row 1 (Ls b1)),(4,.mix 5 [[.val (.int .i64 m_.f.s.n),.own 5 0 v67.length,.own 6 0 v68.length,.own 7 0 s75.1.length,.own 8 0 0]]),(5,.row 1 (Is v67)),(6,.row 1 (Is v68)),(7,.row 1 (Is s75.1)),(8,.mix 1 [])],9⟩) (Wk.r1 [(0,0),(1,1),(2,2),(3,3),(4,4),(5,5),(6,6),(7,7),(8,8)] (by simp [hP,hhOk,back,Cat.cells,Mnd.cells,UA,U1,IA,I1,LA,L1,BA,B1,EA,E1,E2,eB,eI,eL])) ?_
  refine w_cond rfl (fun g=>?_) fun g=>?_
  ·have g76:s75.2<m_.f.s.n:=by first|simpa using g|(simp at g;exact g)|(simp at g;omega)
   clear g
   replace h:=if_l g76 h
   refine w_skip ?_
   refine tn ?_
   refine w_seq ?_
   refine w_block ?_
   refine runQ hN fun K hK=>?_
   replace h:=ass_some h
   obtain ⟨a77,h⟩:=h
   simp [-guardE_b,-Is_at,-Is_at',-Ls_at,-Ls_at',eL,eI,allInts,eP_Cat,eP_Mnd,Cat.cells,Mnd.cells,at_I a77]
   repeat with_reducible refine sdQ ?_
   replace h:=bind_some h
   obtain ⟨v78,hv78,h⟩:=h
   refine callA_intro (w_s_l09Find _ _ v78 hv78) (.cons (.whole (by simp) (by simp) (by simp)) (.cons (.lits (es:=_) rfl (.cons rfl (.cons .val .nil) (.cons rfl (.cons .val .nil) (.cons rfl (.cons .val .nil) .nil))) rfl) .nil)) ?_
   replace h:=ass_some h
   obtain ⟨a79,h⟩:=h
   try simp only [List.length_append,List.length_cons,List.length_nil] at a79
   simp [-guardE_b,-Is_at,-Is_at',-Ls_at,-Ls_at',unk,unA,unE,unT,unC,flat,eL,eI,allInts,eP_Cat,eP_Mnd,Cat.cells,Mnd.cells,at_I a77,a79]
   repeat with_reducible refine sdQ ?_
   refine hK _ ?_
   clear hK K
   refine bn ?_
   refine tn ?_
   refine w_weak (st':=⟨[(1,.adr 0 0 0),(2,.adr 1 0 0),(4,.adr 2 0 0),(5,.own 3 0 b1.length),(10,.adr 4 0 0),(11,.val (.int .i64 s75.2))],[(0,.mix 14 [(Mnd.cells true m_)]),(1,.mix 5 [[.val (.int .i64 0),.val (.slice none 0 0),.val (.slice none 0 0),.val (.slice none 0 0),.val (.slice none 0 0)]]),(2,.mix 5 [(Cat.cells true m_.f.s)]),(3,.row 1 (Ls b1)),(4,.mix 5 [[.val (.int .i64 m_.f.s.n),.own 5 0 v67.length,.own 6 0 v68.length,.own 7 0 ((s75.1++[v78]).length),.own 8 0 0]]),(5,.row 1 (Is v67)),(6,.row 1 (Is v68)),(7,.row 1 (Is (s75.1++[v78]))),(8,.mix 1 [])],9⟩) (Wk.r1 [(0,0),(1,1),(2,2),(3,3),(4,4),(5,5),(6,6),(12,7),(8,8)] (by simp [hP,hhOk,back,Cat.cells,Mnd.cells,UA,U1,IA,I1,LA,L1,BA,B1,EA,E1,E2,eB,eI,eL])) ?_
   refine runQ hN fun K hK=>?_
   replace h:=ass_some h
   obtain ⟨a80,h⟩:=h
   simp [-guardE_b,-Is_at,-Is_at',-Ls_at,-Ls_at',eL,eI,allInts,eP_Cat,eP_Mnd,Cat.cells,Mnd.cells,wrap_id a80]
   repeat with_reducible refine sdQ ?_
   refine hK _ ?_
   clear hK K
   cases h
   exact rn (s':=(s75.1++[v78],s75.2+1)) hk75 (Wk.r1 [(0,0),(1,1),(2,2),(3,3),(4,4),(5,5),(6,6),(7,7),(8,8)] (by simp [hP,hhOk,back,Cat.cells,Mnd.cells,UA,U1,IA,I1,LA,L1,BA,B1,EA,E1,E2,eB,eI,eL]))
  have g76:¬ (s75.2<m_.f.s.n):=by first|simpa using g|(simp at g;exact g)|(simp at g;omega)
  clear g
  replace h:=if_r g76 h
  refine w_exit ?_
  refine tx ?_
  refine lx ?_
  refine bh ?_
  cases h
  exact jn (b:=s75.1) hk75 (Wk.r1 [(0,0),(1,1),(3,2),(4,3),(5,4),(6,5),(7,6),(8,7)] (by simp [hP,hhOk,back,Cat.cells,Mnd.cells,UA,U1,IA,I1,LA,L1,BA,B1,EA,E1,E2,eB,eI,eL]))
 intro b69 hb69
 have h:=h69
 rw [← hb69] at h
 clear h69
 try dsimp only at h
 refine w_seq ?_
 refine w_seq ?_
 refine runQ hN fun K hK=>?_
 simp [-guardE_b,-Is_at,-Is_at',-Ls_at,-Ls_at',eL,eI,allInts,eP_Cat,eP_Mnd,Cat.cells,Mnd.cells]
 repeat with_reducible refine sdQ ?_
 refine hK _ ?_
 clear hK K
 refine tn ?_
 refine w_weak (st':=⟨[(1,.adr 0 0 0),(2,.adr 1 0 0),(5,.own 2 0 b1.length),(10,.adr 3 0 0),(12,.val (.int .i64 0))],[(0,.mix 14 [(Mnd.cells true m_)]),(1,.mix 5 [[.val (.int .i64 0),.val (.slice none 0 0),.val (.slice none 0 0),.val (.slice none 0 0),.val (.slice none 0 0)]]),(2,.row 1 (Ls b1)),(3,.mix 5 [[.val (.int .i64 m_.f.s.n),.own 4 0 v67.length,.own 5 0 v68.length,.own 6 0 b69.length,.own 7 0 0]]),(4,.row 1 (Is v67)),(5,.row 1 (Is v68)),(6,.row 1 (Is b69)),(7,.mix 1 [])],8⟩) (Wk.r1 [(0,0),(1,1),(2,2),(3,3),(4,4),(5,5),(6,6),(7,7)] (by simp [hP,hhOk,back,Cat.cells,Mnd.cells,UA,U1,IA,I1,LA,L1,BA,B1,EA,E1,E2,eB,eI,eL])) ?_
 replace h:=bind_some h
 obtain ⟨e81,h,h81⟩:=h
 refine w_joinT (fun b81:List (List Int)=>⟨[(2,.adr 0 0 0),(5,.own 1 0 b1.length),(10,.adr 2 0 0)],[(0,.mix 5 [[.val (.int .i64 0),.val (.slice none 0 0),.val (.slice none 0 0),.val (.slice none 0 0),.val (.slice none 0 0)]]),(1,.row 1 (Ls b1)),(2,.mix 5 [[.val (.int .i64 m_.f.s.n),.own 3 0 v67.length,.own 4 0 v68.length,.own 5 0 b69.length,.own 6 0 b81.length]]),(3,.row 1 (Is v67)),(4,.row 1 (Is v68)),(5,.row 1 (Is b69)),(6,.row 1 (Ls b81))],7⟩) (fun b81=>b81=e81) ?_ ?_
 ·refine w_block ?_
  refine w_loopF h (fun s122:List (List Int) × Int=>⟨[(1,.adr 0 0 0),(2,.adr 1 0 0),(5,.own 2 0 b1.length),(10,.adr 3 0 0),(12,.val (.int .i64 s122.2))],[(0,.mix 14 [(Mnd.cells true m_)]),(1,.mix 5 [[.val (.int .i64 0),.val (.slice none 0 0),.val (.slice none 0 0),.val (.slice none 0 0),.val (.slice none 0 0)]]),(2,.row 1 (Ls b1)),(3,.mix 5 [[.val (.int .i64 m_.f.s.n),.own 4 0 v67.length,.own 5 0 v68.length,.own 6 0 b69.length,.own 7 0 s122.1.length]]),(4,.row 1 (Is v67)),(5,.row 1 (Is v68)),(6,.row 1 (Is b69)),(7,.row 1 (Ls s122.1))],8⟩) (wk_tr ⟨[(1,.adr 0 0 0),(2,.adr 1 0 0),(5,.own 2 0 b1.length),(10,.adr 3 0 0),(12,.val (.int .i64 0))],[(0,.mix 14 [(Mnd.cells true m_)]),(1,.mix 5 [[.val (.int .i64 0),.val (.slice none 0 0),.val (.slice none 0 0),.val (.slice none 0 0),.val (.slice none 0 0)]]),(2,.row 1 (Ls b1)),(3,.mix 5 [[.val (.int .i64 m_.f.s.n),.own 4 0 v67.length,.own 5 0 v68.length,.own 6 0 b69.length,.own 7 0 0]]),(4,.row 1 (Is v67)),(5,.row 1 (Is v68)),(6,.row 1 (Is b69)),(7,.row 1 (Ls []))],8⟩ (Wk.nils [] (by simp) (by simp) (by simp [nlA]) (by simp [entN,nlL,nlA,Cat.cells,Mnd.cells,UA,U1,IA,I1,LA,L1,BA,B1,EA,E1,E2,eB,eI,eL]) (by simp)) (Wk.r1 [(0,0),(1,1),(2,2),(3,3),(4,4),(5,5),(6,6),(7,7)] (by simp [hP,hhOk,back,Cat.cells,Mnd.cells,UA,U1,IA,I1,LA,L1,BA,B1,EA,E1,E2,eB,eI,eL]))) ?_
  clear h
  intro k122 s122 c122 h hk122
  refine w_seq ?_
  refine w_seq ?_
  replace h:=bind_some h
  obtain ⟨e123,h,h123⟩:=h
  refine w_joinT (fun b123:Bool=>⟨[(1,.adr 0 0 0),(2,.adr 1 0 0),(5,.own 2 0 b1.length),(10,.adr 3 0 0),(12,.val (.int .i64 s122.2)),(96,.val (.bool b123))],[(0,.mix 14 [(Mnd.cells true m_)]),(1,.mix 5 [[.val (.int .i64 0),.val (.slice none 0 0),.val (.slice none 0 0),.val (.slice none 0 0),.val (.slice none 0 0)]]),(2,.row 1 (Ls b1)),(3,.mix 5 [[.val (.int .i64 m_.f.s.n),.own 4 0 v67.length,.own 5 0 v68.length,.own 6 0 b69.length,.own 7 0 s122.1.length]]),(4,.row 1 (Is v67)),(5,.row 1 (Is v68)),(6,.row 1 (Is b69)),(7,.row 1 (Ls s122.1))],8⟩) (fun b123=>b123=e123) ?_ ?_
  ·refine runQ hN fun K hK=>?_
   simp [-guardE_b,-Is_at,-Is_at',-Ls_at,-Ls_at',eL,eI,allInts,eP_Cat,eP_Mnd,Cat.cells,Mnd.cells]
   repeat with_reducible refine sdQ ?_
   refine guard_intro (fun g=>?_) (fun g=>?_)
   ·have g124:s122.2<(b1.length:Int):=by first|simpa using g|(simp at g;exact g)|(simp at g;omega)
    clear g
    replace h:=if_l g124 h
    simp [-guardE_b,-Is_at,-Is_at',-Ls_at,-Ls_at',eL,eI,allInts,eP_Cat,eP_Mnd,Cat.cells,Mnd.cells]
    repeat with_reducible refine sdQ ?_
    replace h:=bind_some h
    obtain ⟨v125,hv125,h⟩:=h
    refine callA_intro (w_s_l02Fits _ v125 hv125) (.cons (.aggL (.cons .val (.cons (.whole (by simp) (by simp) (by simp)) (.cons (.whole (by simp) (by simp) (by simp)) (.cons (.whole (by simp) (by simp) (by simp)) (.cons (.whole (by simp) (by simp) (by simp)) .nil)))))) .nil) ?_
    simp [-guardE_b,-Is_at,-Is_at',-Ls_at,-Ls_at',unk,unA,unE,unT,unC,flat,eL,eI,allInts,eP_Cat,eP_Mnd,Cat.cells,Mnd.cells]
    repeat with_reducible refine sdQ ?_
    refine hK _ ?_
    exact jn (b:=v125) (Option.some.inj h) (Wk.r1 [(0,0),(1,1),(2,2),(3,3),(4,4),(5,5),(6,6),(7,7)] (by simp [hP,hhOk,back,Cat.cells,Mnd.cells,UA,U1,IA,I1,LA,L1,BA,B1,EA,E1,E2,eB,eI,eL]))
   have g124:¬ (s122.2<(b1.length:Int)):=by first|simpa using g|(simp at g;exact g)|(simp at g;omega)
   clear g
   replace h:=if_r g124 h
   simp [-guardE_b,-Is_at,-Is_at',-Ls_at,-Ls_at',eL,eI,allInts,eP_Cat,eP_Mnd,Cat.cells,Mnd.cells]
   repeat with_reducible refine sdQ ?_
   refine hK _ ?_
   exact jn (b:=false) (Option.some.inj h) (Wk.r1 [(0,0),(1,1),(2,2),(3,3),(4,4),(5,5),(6,6),(7,7)] (by simp [hP,hhOk,back,Cat.cells,Mnd.cells,UA,U1,IA,I1,LA,L1,BA,B1,EA,E1,E2,eB,eI,eL]))
  intro b123 hb123
  have h:=h123
  rw [← hb123] at h
  clear h123
  try dsimp only at h
  refine w_cond rfl (fun g=>?_) fun g=>?_
  ·have g126:b123=true:=by first|simpa using g|(simp at g;exact g)|(simp at g;omega)
   clear g
   replace h:=if_l g126 h
   refine w_skip ?_
   refine tn ?_
   refine w_seq ?_
   refine w_block ?_
   refine w_seq ?_
   refine runQ hN fun K hK=>?_
   simp [-guardE_b,-Is_at,-Is_at',-Ls_at,-Ls_at',eL,eI,allInts,eP_Cat,eP_Mnd,Cat.cells,Mnd.cells]
   repeat with_reducible refine sdQ ?_
   refine hK _ ?_
   clear hK K
   refine tn ?_
   refine w_weak (st':=⟨[(1,.adr 0 0 0),(2,.adr 1 0 0),(5,.own 2 0 b1.length),(10,.adr 3 0 0),(12,.val (.int .i64 s122.2)),(13,.own 8 0 0)],[(0,.mix 14 [(Mnd.cells true m_)]),(1,.mix 5 [[.val (.int .i64 0),.val (.slice none 0 0),.val (.slice none 0 0),.val (.slice none 0 0),.val (.slice none 0 0)]]),(2,.row 1 (Ls b1)),(3,.mix 5 [[.val (.int .i64 m_.f.s.n),.own 4 0 v67.length,.own 5 0 v68.length,.own 6 0 b69.length,.own 7 0 s122.1.length]]),(4,.row 1 (Is v67)),(5,.row 1 (Is v68)),(6,.row 1 (Is b69)),(7,.row 1 (Ls s122.1)),(8,.mix 1 [])],9⟩) (Wk.r1 [(0,0),(1,1),(2,2),(3,3),(4,4),(5,5),(6,6),(7,7),(8,8)] (by simp [hP,hhOk,back,Cat.cells,Mnd.cells,UA,U1,IA,I1,LA,L1,BA,B1,EA,E1,E2,eB,eI,eL])) ?_
   refine w_seq ?_
   refine w_seq ?_
   refine runQ hN fun K hK=>?_
   simp [-guardE_b,-Is_at,-Is_at',-Ls_at,-Ls_at',eL,eI,allInts,eP_Cat,eP_Mnd,Cat.cells,Mnd.cells]
   repeat with_reducible refine sdQ ?_
   refine hK _ ?_
   clear hK K
   refine tn ?_
   refine w_weak (st':=⟨[(1,.adr 0 0 0),(2,.adr 1 0 0),(5,.own 2 0 b1.length),(10,.adr 3 0 0),(12,.val (.int .i64 s122.2)),(13,.own 8 0 0),(14,.val (.int .i64 0))],[(0,.mix 14 [(Mnd.cells true m_)]),(1,.mix 5 [[.val (.int .i64 0),.val (.slice none 0 0),.val (.slice none 0 0),.val (.slice none 0 0),.val (.slice none 0 0)]]),(2,.row 1 (Ls b1)),(3,.mix 5 [[.val (.int .i64 m_.f.s.n),.own 4 0 v67.length,.own 5 0 v68.length,.own 6 0 b69.length,.own 7 0 s122.1.length]]),(4,.row 1 (Is v67)),(5,.row 1 (Is v68)),(6,.row 1 (Is b69)),(7,.row 1 (Ls s122.1)),(8,.mix 1 [])],9⟩) (Wk.r1 [(0,0),(1,1),(2,2),(3,3),(4,4),(5,5),(6,6),(7,7),(8,8)] (by simp [hP,hhOk,back,Cat.cells,Mnd.cells,UA,U1,IA,I1,LA,L1,BA,B1,EA,E1,E2,eB,eI,eL])) ?_
   replace h:=bind_some h
   obtain ⟨e127,h,h127⟩:=h
   refine w_joinT (fun b127:List Int=>⟨[(1,.adr 0 0 0),(2,.adr 1 0 0),(5,.own 2 0 b1.length),(10,.adr 3 0 0),(12,.val (.int .i64 s122.2)),(13,.own 8 0 b127.length)],[(0,.mix 14 [(Mnd.cells true m_)]),(1,.mix 5 [[.val (.int .i64 0),.val (.slice none 0 0),.val (.slice none 0 0),.val (.slice none 0 0),.val (.slice none 0 0)]]),(2,.row 1 (Ls b1)),(3,.mix 5 [[.val (.int .i64 m_.f.s.n),.own 4 0 v67.length,.own 5 0 v68.length,.own 6 0 b69.length,.own 7 0 s122.1.length]]),(4,.row 1 (Is v67)),(5,.row 1 (Is v68)),(6,.row 1 (Is b69)),(7,.row 1 (Ls s122.1)),(8,.row 1 (Is b127))],9⟩) (fun b127=>b127=e127) ?_ ?_
   ·refine w_block ?_
    refine w_loopF h (fun s144:List Int × Int=>⟨[(1,.adr 0 0 0),(2,.adr 1 0 0),(5,.own 2 0 b1.length),(10,.adr 3 0 0),(12,.val (.int .i64 s122.2)),(13,.own 8 0 s144.1.length),(14,.val (.int .i64 s144.2))],[(0,.mix 14 [(Mnd.cells true m_)]),(1,.mix 5 [[.val (.int .i64 0),.val (.slice none 0 0),.val (.slice none 0 0),.val (.slice none 0 0),.val (.slice none 0 0)]]),(2,.row 1 (Ls b1)),(3,.mix 5 [[.val (.int .i64 m_.f.s.n),.own 4 0 v67.length,.own 5 0 v68.length,.own 6 0 b69.length,.own 7 0 s122.1.length]]),(4,.row 1 (Is v67)),(5,.row 1 (Is v68)),(6,.row 1 (Is b69)),(7,.row 1 (Ls s122.1)),(8,.row 1 (Is s144.1))],9⟩) (wk_tr ⟨[(1,.adr 0 0 0),(2,.adr 1 0 0),(5,.own 2 0 b1.length),(10,.adr 3 0 0),(12,.val (.int .i64 s122.2)),(13,.own 8 0 0),(14,.val (.int .i64 0))],[(0,.mix 14 [(Mnd.cells true m_)]),(1,.mix 5 [[.val (.int .i64 0),.val (.slice none 0 0),.val (.slice none 0 0),.val (.slice none 0 0),.val (.slice none 0 0)]]),(2,.row 1 (Ls b1)),(3,.mix 5 [[.val (.int .i64 m_.f.s.n),.own 4 0 v67.length,.own 5 0 v68.length,.own 6 0 b69.length,.own 7 0 s122.1.length]]),(4,.row 1 (Is v67)),(5,.row 1 (Is v68)),(6,.row 1 (Is b69)),(7,.row 1 (Ls s122.1)),(8,.row 1 (Is []))],9⟩ (Wk.nils [] (by simp) (by simp) (by simp [nlA]) (by simp [entN,nlL,nlA,Cat.cells,Mnd.cells,UA,U1,IA,I1,LA,L1,BA,B1,EA,E1,E2,eB,eI,eL]) (by simp)) (Wk.r1 [(0,0),(1,1),(2,2),(3,3),(4,4),(5,5),(6,6),(7,7),(8,8)] (by simp [hP,hhOk,back,Cat.cells,Mnd.cells,UA,U1,IA,I1,LA,L1,BA,B1,EA,E1,E2,eB,eI,eL]))) ?_
    clear h
    intro k144 s144 c144 h hk144
    refine w_seq ?_
    refine w_seq ?_
    refine runQ hN fun K hK=>?_
    simp [-guardE_b,-Is_at,-Is_at',-Ls_at,-Ls_at',eL,eI,allInts,eP_Cat,eP_Mnd,Cat.cells,Mnd.cells]
    repeat with_reducible refine sdQ ?_
    refine hK _ ?_
    clear hK K
    refine tn ?_
    refine w_weak (st':=⟨[(1,.adr 0 0 0),(2,.adr 1 0 0),(5,.own 2 0 b1.length),(10,.adr 3 0 0),(12,.val (.int .i64 s122.2)),(13,.own 8 0 s144.1.length),(14,.val (.int .i64 s144.2)),(103,.val (.bool (decide (s144.2<(b1.length:Int)))))],[(0,.mix 14 [(Mnd.cells true m_)]),(1,.mix 5 [[.val (.int .i64 0),.val (.slice none 0 0),.val (.slice none 0 0),.val (.slice none 0 0),.val (.slice none 0 0)]]),(2,.row 1 (Ls b1)),(3,.mix 5 [[.val (.int .i64 m_.f.s.n),.own 4 0 v67.length,.own 5 0 v68.length,.own 6 0 b69.length,.own 7 0 s122.1.length]]),(4,.row 1 (Is v67)),(5,.row 1 (Is v68)),(6,.row 1 (Is b69)),(7,.row 1 (Ls s122.1)),(8,.row 1 (Is s144.1))],9⟩) (Wk.r1 [(0,0),(1,1),(2,2),(3,3),(4,4),(5,5),(6,6),(7,7),(8,8)] (by simp [hP,hhOk,back,Cat.cells,Mnd.cells,UA,U1,IA,I1,LA,L1,BA,B1,EA,E1,E2,eB,eI,eL])) ?_
    refine w_cond rfl (fun g=>?_) fun g=>?_
    ·have g145:s144.2<(b1.length:Int):=by first|simpa using g|(simp at g;exact g)|(simp at g;omega)
     clear g
     replace h:=if_l g145 h
     refine w_skip ?_
     refine tn ?_
     refine w_seq ?_
     refine w_block ?_
     refine w_seq ?_
     refine runQ hN fun K hK=>?_
     replace h:=ass_some h
     obtain ⟨a146,h⟩:=h
     replace h:=ass_some h
     obtain ⟨a147,h⟩:=h
     simp [-guardE_b,-Is_at,-Is_at',-Ls_at,-Ls_at',eL,eI,allInts,eP_Cat,eP_Mnd,Cat.cells,Mnd.cells,at_L a146,at_L a147]
     repeat with_reducible refine sdQ ?_
     refine hK _ ?_
     clear hK K
     refine tn ?_
     refine w_weak (st':=⟨[(1,.adr 0 0 0),(2,.adr 1 0 0),(5,.own 2 0 b1.length),(10,.adr 3 0 0),(12,.val (.int .i64 s122.2)),(13,.own 8 0 s144.1.length),(14,.val (.int .i64 s144.2)),(15,.own 9 0 ((rx b1 s122.2).length)),(16,.own 10 0 ((rx b1 s144.2).length))],[(0,.mix 14 [(Mnd.cells true m_)]),(1,.mix 5 [[.val (.int .i64 0),.val (.slice none 0 0),.val (.slice none 0 0),.val (.slice none 0 0),.val (.slice none 0 0)]]),(2,.row 1 (Ls b1)),(3,.mix 5 [[.val (.int .i64 m_.f.s.n),.own 4 0 v67.length,.own 5 0 v68.length,.own 6 0 b69.length,.own 7 0 s122.1.length]]),(4,.row 1 (Is v67)),(5,.row 1 (Is v68)),(6,.row 1 (Is b69)),(7,.row 1 (Ls s122.1)),(8,.row 1 (Is s144.1)),(9,.ali 2 s122.2.toNat 0 1),(10,.ali 2 s144.2.toNat 0 1)],11⟩) (Wk.r1 [(0,0),(1,1),(2,2),(3,3),(4,4),(5,5),(6,6),(7,7),(8,8),(9,9),(10,10)] (by simp [hP,hhOk,back,Cat.cells,Mnd.cells,UA,U1,IA,I1,LA,L1,BA,B1,EA,E1,E2,eB,eI,eL])) ?_
     refine w_seq ?_
     refine runQ hN fun K hK=>?_
     simp [-guardE_b,-Is_at,-Is_at',-Ls_at,-Ls_at',eL,eI,allInts,eP_Cat,eP_Mnd,Cat.cells,Mnd.cells]
     repeat with_reducible refine sdQ ?_
     refine hK _ ?_
     clear hK K
     refine tn ?_
     refine w_weak (st':=⟨[(1,.adr 0 0 0),(2,.adr 1 0 0),(5,.own 2 0 b1.length),(10,.adr 3 0 0),(12,.val (.int .i64 s122.2)),(13,.own 8 0 s144.1.length),(14,.val (.int .i64 s144.2)),(15,.own 9 0 ((rx b1 s122.2).length)),(16,.own 10 0 ((rx b1 s144.2).length)),(17,.val (.int .i64 (-1)))],[(0,.mix 14 [(Mnd.cells true m_)]),(1,.mix 5 [[.val (.int .i64 0),.val (.slice none 0 0),.val (.slice none 0 0),.val (.slice none 0 0),.val (.slice none 0 0)]]),(2,.row 1 (Ls b1)),(3,.mix 5 [[.val (.int .i64 m_.f.s.n),.own 4 0 v67.length,.own 5 0 v68.length,.own 6 0 b69.length,.own 7 0 s122.1.length]]),(4,.row 1 (Is v67)),(5,.row 1 (Is v68)),(6,.row 1 (Is b69)),(7,.row 1 (Ls s122.1)),(8,.row 1 (Is s144.1)),(9,.ali 2 s122.2.toNat 0 1),(10,.ali 2 s144.2.toNat 0 1)],11⟩) (Wk.r1 [(0,0),(1,1),(2,2),(3,3),(4,4),(5,5),(6,6),(7,7),(8,8),(9,9),(10,10)] (by simp [hP,hhOk,back,Cat.cells,Mnd.cells,UA,U1,IA,I1,LA,L1,BA,B1,EA,E1,E2,eB,eI,eL])) ?_
     refine w_seq ?_
     refine w_seq ?_
     refine runQ hN fun K hK=>?_
     replace h:=ass_some h
     obtain ⟨a148,h⟩:=h
     replace h:=ass_some h
     obtain ⟨a149,h⟩:=h
     simp [-guardE_b,-Is_at,-Is_at',-Ls_at,-Ls_at',eL,eI,allInts,eP_Cat,eP_Mnd,Cat.cells,Mnd.cells,at_L a146,(show (Is (rx b1 s122.2))[1]? = some [.val (.int .i64 (ix (rx b1 s122.2) 1))] from at_I (j:=1) a148),at_L a147,(show (Is (rx b1 s144.2))[0]? = some [.val (.int .i64 (ix (rx b1 s144.2) 0))] from at_I (j:=0) a149)]
     repeat with_reducible refine sdQ ?_
     refine hK _ ?_
     clear hK K
     refine tn ?_
     refine w_weak (st':=⟨[(1,.adr 0 0 0),(2,.adr 1 0 0),(5,.own 2 0 b1.length),(10,.adr 3 0 0),(12,.val (.int .i64 s122.2)),(13,.own 8 0 s144.1.length),(14,.val (.int .i64 s144.2)),(15,.own 9 0 ((rx b1 s122.2).length)),(16,.own 10 0 ((rx b1 s144.2).length)),(17,.val (.int .i64 (-1))),(120,.val (.bool ((ix (rx b1 s122.2) 1) == (ix (rx b1 s144.2) 0))))],[(0,.mix 14 [(Mnd.cells true m_)]),(1,.mix 5 [[.val (.int .i64 0),.val (.slice none 0 0),.val (.slice none 0 0),.val (.slice none 0 0),.val (.slice none 0 0)]]),(2,.row 1 (Ls b1)),(3,.mix 5 [[.val (.int .i64 m_.f.s.n),.own 4 0 v67.length,.own 5 0 v68.length,.own 6 0 b69.length,.own 7 0 s122.1.length]]),(4,.row 1 (Is v67)),(5,.row 1 (Is v68)),(6,.row 1 (Is b69)),(7,.row 1 (Ls s122.1)),(8,.row 1 (Is s144.1)),(9,.ali 2 s122.2.toNat 0 1),(10,.ali 2 s144.2.toNat 0 1)],11⟩) (Wk.r1 [(0,0),(1,1),(2,2),(3,3),(4,4),(5,5),(6,6),(7,7),(8,8),(9,9),(10,10)] (by simp [hP,hhOk,back,Cat.cells,Mnd.cells,UA,U1,IA,I1,LA,L1,BA,B1,EA,E1,E2,eB,eI,eL])) ?_
     replace h:=bind_some h
     obtain ⟨e150,h,h150⟩:=h
     refine w_joinT (fun b150:Int=>⟨[(1,.adr 0 0 0),(2,.adr 1 0 0),(5,.own 2 0 b1.length),(10,.adr 3 0 0),(12,.val (.int .i64 s122.2)),(13,.own 8 0 s144.1.length),(14,.val (.int .i64 s144.2)),(17,.val (.int .i64 b150))],[(0,.mix 14 [(Mnd.cells true m_)]),(1,.mix 5 [[.val (.int .i64 0),.val (.slice none 0 0),.val (.slice none 0 0),.val (.slice none 0 0),.val (.slice none 0 0)]]),(2,.row 1 (Ls b1)),(3,.mix 5 [[.val (.int .i64 m_.f.s.n),.own 4 0 v67.length,.own 5 0 v68.length,.own 6 0 b69.length,.own 7 0 s122.1.length]]),(4,.row 1 (Is v67)),(5,.row 1 (Is v68)),(6,.row 1 (Is b69)),(7,.row 1 (Ls s122.1)),(8,.row 1 (Is s144.1))],9⟩) (fun b150=>b150=e150) ?_ ?_
     ·refine w_cond rfl (fun g=>?_) fun g=>?_
      ·have g151:(ix (rx b1 s122.2) 1)=(ix (rx b1 s144.2) 0):=by first|simpa using g|(simp at g;exact g)|(simp at g;omega)
       clear g
       replace h:=if_l g151 h
       refine runQ hN fun K hK=>?_
       replace h:=ass_some h
       obtain ⟨a152,h⟩:=h
       replace h:=ass_some h
       obtain ⟨a153,h⟩:=h
       replace h:=ass_some h
       obtain ⟨a154,h⟩:=h
       replace h:=ass_some h
       obtain ⟨a155,h⟩:=h
       replace h:=ass_some h
       obtain ⟨a156,h⟩:=h
       simp [-guardE_b,-Is_at,-Is_at',-Ls_at,-Ls_at',eL,eI,allInts,eP_Cat,eP_Mnd,Cat.cells,Mnd.cells,at_L a146,(show (Is (rx b1 s122.2))[0]? = some [.val (.int .i64 (ix (rx b1 s122.2) 0))] from at_I (j:=0) a152),at_L a147,(show (Is (rx b1 s144.2))[1]? = some [.val (.int .i64 (ix (rx b1 s144.2) 1))] from at_I (j:=1) a153),(show (Is (rx b1 s144.2))[1]? = some [.val (.int .i64 (ix (rx b1 s144.2) 1))] from at_I (j:=1) a154),(show (Is (rx b1 s122.2))[2]? = some [.val (.int .i64 (ix (rx b1 s122.2) 2))] from at_I (j:=2) a155),(show (Is (rx b1 s144.2))[2]? = some [.val (.int .i64 (ix (rx b1 s144.2) 2))] from at_I (j:=2) a156)]
       repeat with_reducible refine sdQ ?_
       replace h:=bind_some h
       obtain ⟨v157,hv157,h⟩:=h
       refine callA_intro (w_s_l16Bind _ _ _ _ v157 hv157) (.cons (.aggL (.cons .val (.cons .lst (.cons .lst (.cons .lst (.cons .lst (.cons .val (.cons .lst (.cons .lst (.cons .lst (.cons .lst (.cons .lst (.cons .lst (.cons .lst (.cons .lst .nil))))))))))))))) (.cons .val (.cons .val (.cons .val .nil)))) ?_
       simp [-guardE_b,-Is_at,-Is_at',-Ls_at,-Ls_at',unk,unA,unE,unT,unC,flat,eL,eI,allInts,eP_Cat,eP_Mnd,Cat.cells,Mnd.cells,at_L a146,at_L a147]
       repeat with_reducible refine sdQ ?_
       replace h:=bind_some h
       obtain ⟨v158,hv158,h⟩:=h
       refine callA_intro (w_s_l09Find _ _ v158 hv158) (.cons (.whole (by simp) (by simp) (by simp)) (.cons (.lits (es:=_) rfl (.cons rfl (.cons .val .nil) (.cons rfl (.cons .val .nil) (.cons rfl (.cons .val .nil) .nil))) rfl) .nil)) ?_
       simp [-guardE_b,-Is_at,-Is_at',-Ls_at,-Ls_at',unk,unA,unE,unT,unC,flat,eL,eI,allInts,eP_Cat,eP_Mnd,Cat.cells,Mnd.cells,at_L a146,at_L a147]
       repeat with_reducible refine sdQ ?_
       refine hK _ ?_
       clear hK K
       exact jn (b:=v158) (Option.some.inj h) (Wk.r1 [(0,0),(1,1),(2,2),(3,3),(4,4),(5,5),(6,6),(7,7),(8,8)] (by simp [hP,hhOk,back,Cat.cells,Mnd.cells,UA,U1,IA,I1,LA,L1,BA,B1,EA,E1,E2,eB,eI,eL]))
      have g151:¬ ((ix (rx b1 s122.2) 1)=(ix (rx b1 s144.2) 0)):=by first|simpa using g|(simp at g;exact g)|(simp at g;omega)
      clear g
      replace h:=if_r g151 h
      refine w_skip ?_
      exact jn (b:=(-1)) (Option.some.inj h) (Wk.r1 [(0,0),(1,1),(2,2),(3,3),(4,4),(5,5),(6,6),(7,7),(8,8)] (by simp [hP,hhOk,back,Cat.cells,Mnd.cells,UA,U1,IA,I1,LA,L1,BA,B1,EA,E1,E2,eB,eI,eL]))
     intro b150 hb150
     have h:=h150
     rw [← hb150] at h
     clear h150
     try dsimp only at h
     refine runQ hN fun K hK=>?_
     replace h:=ass_some h
     obtain ⟨a159,h⟩:=h
     try simp only [List.length_append,List.length_cons,List.length_nil] at a159
     simp [-guardE_b,-Is_at,-Is_at',-Ls_at,-Ls_at',eL,eI,allInts,eP_Cat,eP_Mnd,Cat.cells,Mnd.cells,a159]
     repeat with_reducible refine sdQ ?_
     refine hK _ ?_
     clear hK K
     refine bn ?_
     refine tn ?_
     refine w_weak (st':=⟨[(1,.adr 0 0 0),(2,.adr 1 0 0),(5,.own 2 0 b1.length),(10,.adr 3 0 0),(12,.val (.int .i64 s122.2)),(13,.own 8 0 ((s144.1++[b150]).length)),(14,.val (.int .i64 s144.2))],[(0,.mix 14 [(Mnd.cells true m_)]),(1,.mix 5 [[.val (.int .i64 0),.val (.slice none 0 0),.val (.slice none 0 0),.val (.slice none 0 0),.val (.slice none 0 0)]]),(2,.row 1 (Ls b1)),(3,.mix 5 [[.val (.int .i64 m_.f.s.n),.own 4 0 v67.length,.own 5 0 v68.length,.own 6 0 b69.length,.own 7 0 s122.1.length]]),(4,.row 1 (Is v67)),(5,.row 1 (Is v68)),(6,.row 1 (Is b69)),(7,.row 1 (Ls s122.1)),(8,.row 1 (Is (s144.1++[b150])))],9⟩) (Wk.r1 [(0,0),(1,1),(2,2),(3,3),(4,4),(5,5),(6,6),(7,7),(10,8)] (by simp [hP,hhOk,back,Cat.cells,Mnd.cells,UA,U1,IA,I1,LA,L1,BA,B1,EA,E1,E2,eB,eI,eL])) ?_
     refine runQ hN fun K hK=>?_
     replace h:=ass_some h
     obtain ⟨a160,h⟩:=h
     simp [-guardE_b,-Is_at,-Is_at',-Ls_at,-Ls_at',eL,eI,allInts,eP_Cat,eP_Mnd,Cat.cells,Mnd.cells,wrap_id a160]
     repeat with_reducible refine sdQ ?_
     refine hK _ ?_
     clear hK K
     cases h
     exact rn (s':=(s144.1++[b150],s144.2+1)) hk144 (Wk.r1 [(0,0),(1,1),(2,2),(3,3),(4,4),(5,5),(6,6),(7,7),(8,8)] (by simp [hP,hhOk,back,Cat.cells,Mnd.cells,UA,U1,IA,I1,LA,L1,BA,B1,EA,E1,E2,eB,eI,eL]))
    have g145:¬ (s144.2<(b1.length:Int)):=by first|simpa using g|(simp at g;exact g)|(simp at g;omega)
    clear g
    replace h:=if_r g145 h
    refine w_exit ?_
    refine tx ?_
    refine lx ?_
    refine bh ?_
    cases h
    exact jn (b:=s144.1) hk144 (Wk.r1 [(0,0),(1,1),(2,2),(3,3),(4,4),(5,5),(6,6),(7,7),(8,8)] (by simp [hP,hhOk,back,Cat.cells,Mnd.cells,UA,U1,IA,I1,LA,L1,BA,B1,EA,E1,E2,eB,eI,eL]))
   intro b127 hb127
   have h:=h127
   rw [← hb127] at h
   clear h127
   try dsimp only at h
   refine runQ hN fun K hK=>?_
   replace h:=ass_some h
   obtain ⟨a161,h⟩:=h
   try simp only [List.length_append,List.length_cons,List.length_nil] at a161
   simp [-guardE_b,-Is_at,-Is_at',-Ls_at,-Ls_at',eL,eI,allInts,eP_Cat,eP_Mnd,Cat.cells,Mnd.cells,a161]
   repeat with_reducible refine sdQ ?_
   refine hK _ ?_
   clear hK K
   refine bn ?_
   refine tn ?_
   refine w_weak (st':=⟨[(1,.adr 0 0 0),(2,.adr 1 0 0),(5,.own 2 0 b1.length),(10,.adr 3 0 0),(12,.val (.int .i64 s122.2))],[(0,.mix 14 [(Mnd.cells true m_)]),(1,.mix 5 [[.val (.int .i64 0),.val (.slice none 0 0),.val (.slice none 0 0),.val (.slice none 0 0),.val (.slice none 0 0)]]),(2,.row 1 (Ls b1)),(3,.mix 5 [[.val (.int .i64 m_.f.s.n),.own 4 0 v67.length,.own 5 0 v68.length,.own 6 0 b69.length,.own 7 0 ((s122.1++[b127]).length)]]),(4,.row 1 (Is v67)),(5,.row 1 (Is v68)),(6,.row 1 (Is b69)),(7,.row 1 (Ls (s122.1++[b127])))],8⟩) (Wk.r1 [(0,0),(1,1),(2,2),(3,3),(4,4),(5,5),(6,6),(10,7)] (by simp [hP,hhOk,back,Cat.cells,Mnd.cells,UA,U1,IA,I1,LA,L1,BA,B1,EA,E1,E2,eB,eI,eL])) ?_
   refine runQ hN fun K hK=>?_
   replace h:=ass_some h
   obtain ⟨a162,h⟩:=h
   simp [-guardE_b,-Is_at,-Is_at',-Ls_at,-Ls_at',eL,eI,allInts,eP_Cat,eP_Mnd,Cat.cells,Mnd.cells,wrap_id a162]
   repeat with_reducible refine sdQ ?_
   refine hK _ ?_
   clear hK K
   cases h
   exact rn (s':=(s122.1++[b127],s122.2+1)) hk122 (Wk.r1 [(0,0),(1,1),(2,2),(3,3),(4,4),(5,5),(6,6),(7,7)] (by simp [hP,hhOk,back,Cat.cells,Mnd.cells,UA,U1,IA,I1,LA,L1,BA,B1,EA,E1,E2,eB,eI,eL]))
  have g126:¬ (b123=true):=by first|simpa using g|(simp at g;exact g)|(simp at g;omega)
  clear g
  replace h:=if_r g126 h
  refine w_exit ?_
  refine tx ?_
  refine lx ?_
  refine bh ?_
  cases h
  exact jn (b:=s122.1) hk122 (Wk.r1 [(1,0),(2,1),(3,2),(4,3),(5,4),(6,5),(7,6)] (by simp [hP,hhOk,back,Cat.cells,Mnd.cells,UA,U1,IA,I1,LA,L1,BA,B1,EA,E1,E2,eB,eI,eL]))
 intro b81 hb81
 have h:=h81
 rw [← hb81] at h
 clear h81
 try dsimp only at h
 refine w_seq ?_
 refine runQ hN fun K hK=>?_
 simp [-guardE_b,-Is_at,-Is_at',-Ls_at,-Ls_at',eL,eI,allInts,eP_Cat,eP_Mnd,Cat.cells,Mnd.cells]
 repeat with_reducible refine sdQ ?_
 refine hK _ ?_
 clear hK K
 refine tn ?_
 refine w_weak (st':=⟨[(2,.adr 0 0 0),(3,.own 5 0 b1.length)],[(0,.mix 5 [[.val (.int .i64 m_.f.s.n),.own 1 0 v67.length,.own 2 0 v68.length,.own 3 0 b69.length,.own 4 0 b81.length]]),(1,.row 1 (Is v67)),(2,.row 1 (Is v68)),(3,.row 1 (Is b69)),(4,.row 1 (Ls b81)),(5,.row 1 (Ls b1))],6⟩) (Wk.r1 [(0,0),(3,1),(4,2),(5,3),(6,4),(1,5)] (by simp [hP,hhOk,back,Cat.cells,Mnd.cells,UA,U1,IA,I1,LA,L1,BA,B1,EA,E1,E2,eB,eI,eL])) ?_
 refine w_ret ?_
 have hr:=Option.some.inj h
 rw [← hr]
 refine ⟨_,(.cell tf_33 rfl rfl rfl (by simp) (by simp) (.tmp .nil)),?_⟩
 refine ⟨(.agg rfl (.one rfl rfl .nil)),[.val (.int .i64 m_.f.s.n),.lst true 1 (Is v67),.lst true 1 (Is v68),.lst true 1 (Is b69),.lst true 1 (Ls b81),.lst true 1 (Ls b1)],[1,2,3,4,5],by simp [Cat.cells,Mnd.cells,UA,U1,IA,I1,LA,L1,BA,B1,EA,E1,E2,eB,eI,eL],by simp,(UpL.refl _)⟩
end Go.Vc.T
namespace Go.Vc.T
open Go Go.Vc Go.Proofs
noncomputable def s_s_l16Code (m_:Mnd):Option (Cat × List (List Int) × Int) :=
 (s_s_l16Is m_).bind fun v1 =>
 if ¬ (v1=true) then
  some ((⟨0,[],[],[],[]⟩:Cat),[],1)
 else
  (s_s_l16Kleisli m_).bind fun v3 =>
  (s_s_l02Fits v3.1).bind fun v4 =>
  if ¬ (v4=true) then
   some ((⟨0,[],[],[],[]⟩:Cat),[],3)
  else
   some (v3.1,v3.2,0)
set_option maxHeartbeats 4000000 in
theorem w_s_l16Code (m_:Mnd) (r:Cat × List (List Int) × Int) (h:s_s_l16Code m_=some r):Contract Try.prog 21 [.agg (m_.cells true)] (.tup [.agg (r.1.cells true),.lst true 1 (Ls r.2.1),.val (.int .i64 r.2.2)]):=by
 refine contract_introG (rvs:=[.cell 2 33,.tmp 3,.tmp 4]) (rs:=[.agg (r.1.cells true),.lst true 1 (Ls r.2.1),.val (.int .i64 r.2.2)]) Try.func21 rfl rfl rfl rfl (by simp [Try.f21]) fun F hN hP=>?_
 unfold s_s_l16Code at h
 refine w_seq ?_
 refine runQ hN fun K hK=>?_
 simp [-guardE_b,-Is_at,-Is_at',-Ls_at,-Ls_at',eL,eI,allInts,eP_Cat,eP_Mnd,Cat.cells,Mnd.cells]
 repeat with_reducible refine sdQ ?_
 refine hK _ ?_
 clear hK K
 refine tn ?_
 refine w_weak (st':=⟨[(1,.adr 0 0 0),(2,.adr 1 0 0)],[(0,.mix 14 [(Mnd.cells true m_)]),(1,.mix 5 [[.val (.int .i64 0),.val (.slice none 0 0),.val (.slice none 0 0),.val (.slice none 0 0),.val (.slice none 0 0)]])],2⟩) (Wk.r1 [(0,0),(1,1)] (by simp [hP,hhOk,back,Cat.cells,Mnd.cells,UA,U1,IA,I1,LA,L1,BA,B1,EA,E1,E2,eB,eI,eL])) ?_
 refine w_seq ?_
 refine w_seq ?_
 refine runQ hN fun K hK=>?_
 simp [-guardE_b,-Is_at,-Is_at',-Ls_at,-Ls_at',eL,eI,allInts,eP_Cat,eP_Mnd,Cat.cells,Mnd.cells]
 repeat with_reducible refine sdQ ?_
 replace h:=bind_some h
 obtain ⟨v1,hv1,h⟩:=h
 refine callA_intro (w_s_l16Is _ v1 hv1) (.cons (.aggL (.cons .val (.cons .lst (.cons .lst (.cons .lst (.cons .lst (.cons .val (.cons .lst (.cons .lst (.cons .lst (.cons .lst (.cons .lst (.cons .lst (.cons .lst (.cons .lst .nil))))))))))))))) .nil) ?_
 simp [-guardE_b,-Is_at,-Is_at',-Ls_at,-Ls_at',unk,unA,unE,unT,unC,flat,eL,eI,allInts,eP_Cat,eP_Mnd,Cat.cells,Mnd.cells]
 repeat with_reducible refine sdQ ?_
 refine hK _ ?_
 clear hK K
 refine tn ?_
 refine w_weak (st':=⟨[(1,.adr 0 0 0),(2,.adr 1 0 0),(9,.val (.bool (!v1)))],[(0,.mix 14 [(Mnd.cells true m_)]),(1,.mix 5 [[.val (.int .i64 0),.val (.slice none 0 0),.val (.slice none 0 0),.val (.slice none 0 0),.val (.slice none 0 0)]])],2⟩) (Wk.r1 [(0,0),(1,1)] (by simp [hP,hhOk,back,Cat.cells,Mnd.cells,UA,U1,IA,I1,LA,L1,BA,B1,EA,E1,E2,eB,eI,eL])) ?_
 refine w_cond rfl (fun g=>?_) fun g=>?_
 ·have g2:¬ (v1=true):=by first|simpa using g|(simp at g;exact g)|(simp at g;omega)
  clear g
  replace h:=if_l g2 h
  refine w_seq ?_
  refine runQ hN fun K hK=>?_
  simp [-guardE_b,-Is_at,-Is_at',-Ls_at,-Ls_at',eL,eI,allInts,eP_Cat,eP_Mnd,Cat.cells,Mnd.cells]
  repeat with_reducible refine sdQ ?_
  refine hK _ ?_
  clear hK K
  refine tn ?_
  refine w_weak (st':=⟨[(2,.adr 0 0 0),(3,.val (.slice none 0 0)),(4,.val (.int .i64 1))],[(0,.mix 5 [[.val (.int .i64 0),.val (.slice none 0 0),.val (.slice none 0 0),.val (.slice none 0 0),.val (.slice none 0 0)]])],1⟩) (Wk.r1 [(1,0)] (by simp [hP,hhOk,back,Cat.cells,Mnd.cells,UA,U1,IA,I1,LA,L1,BA,B1,EA,E1,E2,eB,eI,eL])) ?_
  refine w_ret ?_
  refine tr ?_
  have hr:=Option.some.inj h
  rw [← hr]
  refine ⟨_,(.cell tf_33 rfl rfl rfl (by simp) (by simp) (.tmp (.tmp .nil))),?_⟩
  refine ⟨(.agg rfl (.one rfl rfl (.one rfl rfl .nil))),[.val (.int .i64 0),.val (.slice none 0 0),.val (.slice none 0 0),.val (.slice none 0 0),.val (.slice none 0 0),.val (.slice none 0 0),.val (.int .i64 1)],[],by simp [Cat.cells,Mnd.cells,UA,U1,IA,I1,LA,L1,BA,B1,EA,E1,E2,eB,eI,eL],by simp,(.cons .refl (.cons .nil (.cons .nil (.cons .nil (.cons .nil (.cons .nil (.cons .refl .nil)))))))⟩
 have g2:¬ (¬ (v1=true)):=by first|simpa using g|(simp at g;exact g)|(simp at g;omega)
 clear g
 replace h:=if_r g2 h
 refine w_skip ?_
 refine tn ?_
 refine w_seq ?_
 refine runQ hN fun K hK=>?_
 simp [-guardE_b,-Is_at,-Is_at',-Ls_at,-Ls_at',eL,eI,allInts,eP_Cat,eP_Mnd,Cat.cells,Mnd.cells]
 repeat with_reducible refine sdQ ?_
 replace h:=bind_some h
 obtain ⟨v3,hv3,h⟩:=h
 refine callA_intro (w_s_l16Kleisli _ v3 hv3) (.cons (.aggL (.cons .val (.cons .lst (.cons .lst (.cons .lst (.cons .lst (.cons .val (.cons .lst (.cons .lst (.cons .lst (.cons .lst (.cons .lst (.cons .lst (.cons .lst (.cons .lst .nil))))))))))))))) .nil) ?_
 simp [-guardE_b,-Is_at,-Is_at',-Ls_at,-Ls_at',unk,unA,unE,unT,unC,flat,eL,eI,allInts,eP_Cat,eP_Mnd,Cat.cells,Mnd.cells]
 repeat with_reducible refine sdQ ?_
 refine hK _ ?_
 clear hK K
 refine tn ?_
 refine w_weak (st':=⟨[(2,.adr 0 0 0),(5,.adr 1 0 0),(6,.own 6 0 v3.2.length)],[(0,.mix 5 [[.val (.int .i64 0),.val (.slice none 0 0),.val (.slice none 0 0),.val (.slice none 0 0),.val (.slice none 0 0)]]),(1,.mix 5 [[.val (.int .i64 v3.1.n),.own 2 0 v3.1.fr.length,.own 3 0 v3.1.to.length,.own 4 0 v3.1.id.length,.own 5 0 v3.1.cs.length]]),(2,.row 1 (Is v3.1.fr)),(3,.row 1 (Is v3.1.to)),(4,.row 1 (Is v3.1.id)),(5,.row 1 (Ls v3.1.cs)),(6,.row 1 (Ls v3.2))],7⟩) (Wk.r1 [(1,0),(8,1),(3,2),(4,3),(5,4),(6,5),(7,6)] (by simp [hP,hhOk,back,Cat.cells,Mnd.cells,UA,U1,IA,I1,LA,L1,BA,B1,EA,E1,E2,eB,eI,eL])) ?_
 refine w_seq ?_
 refine w_seq ?_
 refine runQ hN fun K hK=>?_
 simp [-guardE_b,-Is_at,-Is_at',-Ls_at,-Ls_at',eL,eI,allInts,eP_Cat,eP_Mnd,Cat.cells,Mnd.cells]
 repeat with_reducible refine sdQ ?_
 replace h:=bind_some h
 obtain ⟨v4,hv4,h⟩:=h
 refine callA_intro (w_s_l02Fits _ v4 hv4) (.cons (.aggL (.cons .val (.cons (.whole (by simp) (by simp) (by simp)) (.cons (.whole (by simp) (by simp) (by simp)) (.cons (.whole (by simp) (by simp) (by simp)) (.cons (.whole (by simp) (by simp) (by simp)) .nil)))))) .nil) ?_
 simp [-guardE_b,-Is_at,-Is_at',-Ls_at,-Ls_at',unk,unA,unE,unT,unC,flat,eL,eI,allInts,eP_Cat,eP_Mnd,Cat.cells,Mnd.cells]
 repeat with_reducible refine sdQ ?_
 refine hK _ ?_
 clear hK K
 refine tn ?_
 refine w_weak (st':=⟨[(2,.adr 0 0 0),(5,.adr 1 0 0),(6,.own 6 0 v3.2.length),(18,.val (.bool (!v4)))],[(0,.mix 5 [[.val (.int .i64 0),.val (.slice none 0 0),.val (.slice none 0 0),.val (.slice none 0 0),.val (.slice none 0 0)]]),(1,.mix 5 [[.val (.int .i64 v3.1.n),.own 2 0 v3.1.fr.length,.own 3 0 v3.1.to.length,.own 4 0 v3.1.id.length,.own 5 0 v3.1.cs.length]]),(2,.row 1 (Is v3.1.fr)),(3,.row 1 (Is v3.1.to)),(4,.row 1 (Is v3.1.id)),(5,.row 1 (Ls v3.1.cs)),(6,.row 1 (Ls v3.2))],7⟩) (Wk.r1 [(0,0),(1,1),(2,2),(3,3),(4,4),(5,5),(6,6)] (by simp [hP,hhOk,back,Cat.cells,Mnd.cells,UA,U1,IA,I1,LA,L1,BA,B1,EA,E1,E2,eB,eI,eL])) ?_
 refine w_cond rfl (fun g=>?_) fun g=>?_
 ·have g5:¬ (v4=true):=by first|simpa using g|(simp at g;exact g)|(simp at g;omega)
  clear g
  replace h:=if_l g5 h
  refine w_seq ?_
  refine runQ hN fun K hK=>?_
  simp [-guardE_b,-Is_at,-Is_at',-Ls_at,-Ls_at',eL,eI,allInts,eP_Cat,eP_Mnd,Cat.cells,Mnd.cells]
  repeat with_reducible refine sdQ ?_
  refine hK _ ?_
  clear hK K
  refine tn ?_
  refine w_weak (st':=⟨[(2,.adr 0 0 0),(3,.val (.slice none 0 0)),(4,.val (.int .i64 3))],[(0,.mix 5 [[.val (.int .i64 0),.val (.slice none 0 0),.val (.slice none 0 0),.val (.slice none 0 0),.val (.slice none 0 0)]])],1⟩) (Wk.r1 [(0,0)] (by simp [hP,hhOk,back,Cat.cells,Mnd.cells,UA,U1,IA,I1,LA,L1,BA,B1,EA,E1,E2,eB,eI,eL])) ?_
  refine w_ret ?_
  refine tr ?_
  have hr:=Option.some.inj h
  rw [← hr]
  refine ⟨_,(.cell tf_33 rfl rfl rfl (by simp) (by simp) (.tmp (.tmp .nil))),?_⟩
  refine ⟨(.agg rfl (.one rfl rfl (.one rfl rfl .nil))),[.val (.int .i64 0),.val (.slice none 0 0),.val (.slice none 0 0),.val (.slice none 0 0),.val (.slice none 0 0),.val (.slice none 0 0),.val (.int .i64 3)],[],by simp [Cat.cells,Mnd.cells,UA,U1,IA,I1,LA,L1,BA,B1,EA,E1,E2,eB,eI,eL],by simp,(.cons .refl (.cons .nil (.cons .nil (.cons .nil (.cons .nil (.cons .nil (.cons .refl .nil)))))))⟩
 have g5:¬ (¬ (v4=true)):=by first|simpa using g|(simp at g;exact g)|(simp at g;omega)
 clear g
 replace h:=if_r g5 h
 refine w_skip ?_
 refine tn ?_
 refine w_seq ?_
 refine runQ hN fun K hK=>?_
 simp [-guardE_b,-Is_at,-Is_at',-Ls_at,-Ls_at',eL,eI,allInts,eP_Cat,eP_Mnd,Cat.cells,Mnd.cells]
 repeat with_reducible refine sdQ ?_
 refine hK _ ?_
 clear hK K
 refine tn ?_
 refine w_weak (st':=⟨[(2,.adr 0 0 0),(3,.own 5 0 v3.2.length),(4,.val (.int .i64 0))],[(0,.mix 5 [[.val (.int .i64 v3.1.n),.own 1 0 v3.1.fr.length,.own 2 0 v3.1.to.length,.own 3 0 v3.1.id.length,.own 4 0 v3.1.cs.length]]),(1,.row 1 (Is v3.1.fr)),(2,.row 1 (Is v3.1.to)),(3,.row 1 (Is v3.1.id)),(4,.row 1 (Ls v3.1.cs)),(5,.row 1 (Ls v3.2))],6⟩) (Wk.r1 [(0,0),(2,1),(3,2),(4,3),(5,4),(6,5)] (by simp [hP,hhOk,back,Cat.cells,Mnd.cells,UA,U1,IA,I1,LA,L1,BA,B1,EA,E1,E2,eB,eI,eL])) ?_
 refine w_ret ?_
 have hr:=Option.some.inj h
 rw [← hr]
 refine ⟨_,(.cell tf_33 rfl rfl rfl (by simp) (by simp) (.tmp (.tmp .nil))),?_⟩
 refine ⟨(.agg rfl (.one rfl rfl (.one rfl rfl .nil))),[.val (.int .i64 v3.1.n),.lst true 1 (Is v3.1.fr),.lst true 1 (Is v3.1.to),.lst true 1 (Is v3.1.id),.lst true 1 (Ls v3.1.cs),.lst true 1 (Ls v3.2),.val (.int .i64 0)],[1,2,3,4,5],by simp [Cat.cells,Mnd.cells,UA,U1,IA,I1,LA,L1,BA,B1,EA,E1,E2,eB,eI,eL],by simp,(UpL.refl _)⟩
end Go.Vc.T
namespace Go.Vc.T
open Go Go.Vc Go.Proofs
noncomputable def s_s_KleisliCategory (m_:Mnd):Option (Cat × Int) :=
 (s_s_l16Code m_).bind fun v1 =>
 some (v1.1,v1.2.2)
set_option maxHeartbeats 4000000 in
theorem w_s_KleisliCategory (m_:Mnd) (r:Cat × Int) (h:s_s_KleisliCategory m_=some r):Contract Try.prog 14 [.agg (m_.cells true)] (.tup [.agg (r.1.cells true),.val (.int .i64 r.2)]):=by
 refine contract_introG (rvs:=[.cell 2 33,.tmp 3]) (rs:=[.agg (r.1.cells true),.val (.int .i64 r.2)]) Try.func14 rfl rfl rfl rfl (by simp [Try.f14]) fun F hN hP=>?_
 unfold s_s_KleisliCategory at h
 refine w_seq ?_
 refine runQ hN fun K hK=>?_
 simp [-guardE_b,-Is_at,-Is_at',-Ls_at,-Ls_at',eL,eI,allInts,eP_Cat,eP_Mnd,Cat.cells,Mnd.cells]
 repeat with_reducible refine sdQ ?_
 refine hK _ ?_
 clear hK K
 refine tn ?_
 refine w_weak (st':=⟨[(1,.adr 0 0 0),(2,.adr 1 0 0)],[(0,.mix 14 [(Mnd.cells true m_)]),(1,.mix 5 [[.val (.int .i64 0),.val (.slice none 0 0),.val (.slice none 0 0),.val (.slice none 0 0),.val (.slice none 0 0)]])],2⟩) (Wk.r1 [(0,0),(1,1)] (by simp [hP,hhOk,back,Cat.cells,Mnd.cells,UA,U1,IA,I1,LA,L1,BA,B1,EA,E1,E2,eB,eI,eL])) ?_
 refine w_seq ?_
 refine runQ hN fun K hK=>?_
 simp [-guardE_b,-Is_at,-Is_at',-Ls_at,-Ls_at',eL,eI,allInts,eP_Cat,eP_Mnd,Cat.cells,Mnd.cells]
 repeat with_reducible refine sdQ ?_
 replace h:=bind_some h
 obtain ⟨v1,hv1,h⟩:=h
 refine callA_intro (w_s_l16Code _ v1 hv1) (.cons (.aggL (.cons .val (.cons .lst (.cons .lst (.cons .lst (.cons .lst (.cons .val (.cons .lst (.cons .lst (.cons .lst (.cons .lst (.cons .lst (.cons .lst (.cons .lst (.cons .lst .nil))))))))))))))) .nil) ?_
 simp [-guardE_b,-Is_at,-Is_at',-Ls_at,-Ls_at',unk,unA,unE,unT,unC,flat,eL,eI,allInts,eP_Cat,eP_Mnd,Cat.cells,Mnd.cells]
 repeat with_reducible refine sdQ ?_
 refine hK _ ?_
 clear hK K
 refine tn ?_
 refine w_weak (st':=⟨[(2,.adr 0 0 0),(4,.adr 1 0 0),(6,.val (.int .i64 v1.2.2))],[(0,.mix 5 [[.val (.int .i64 0),.val (.slice none 0 0),.val (.slice none 0 0),.val (.slice none 0 0),.val (.slice none 0 0)]]),(1,.mix 5 [[.val (.int .i64 v1.1.n),.own 2 0 v1.1.fr.length,.own 3 0 v1.1.to.length,.own 4 0 v1.1.id.length,.own 5 0 v1.1.cs.length]]),(2,.row 1 (Is v1.1.fr)),(3,.row 1 (Is v1.1.to)),(4,.row 1 (Is v1.1.id)),(5,.row 1 (Ls v1.1.cs))],6⟩) (Wk.r1 [(1,0),(9,1),(3,2),(4,3),(5,4),(6,5)] (by simp [hP,hhOk,back,Cat.cells,Mnd.cells,UA,U1,IA,I1,LA,L1,BA,B1,EA,E1,E2,eB,eI,eL])) ?_
 refine w_seq ?_
 refine runQ hN fun K hK=>?_
 simp [-guardE_b,-Is_at,-Is_at',-Ls_at,-Ls_at',eL,eI,allInts,eP_Cat,eP_Mnd,Cat.cells,Mnd.cells]
 repeat with_reducible refine sdQ ?_
 refine hK _ ?_
 clear hK K
 refine tn ?_
 refine w_weak (st':=⟨[(2,.adr 0 0 0),(3,.val (.int .i64 v1.2.2))],[(0,.mix 5 [[.val (.int .i64 v1.1.n),.own 1 0 v1.1.fr.length,.own 2 0 v1.1.to.length,.own 3 0 v1.1.id.length,.own 4 0 v1.1.cs.length]]),(1,.row 1 (Is v1.1.fr)),(2,.row 1 (Is v1.1.to)),(3,.row 1 (Is v1.1.id)),(4,.row 1 (Ls v1.1.cs))],5⟩) (Wk.r1 [(0,0),(2,1),(3,2),(4,3),(5,4)] (by simp [hP,hhOk,back,Cat.cells,Mnd.cells,UA,U1,IA,I1,LA,L1,BA,B1,EA,E1,E2,eB,eI,eL])) ?_
 refine w_ret ?_
 have hr:=Option.some.inj h
 rw [← hr]
 refine ⟨_,(.cell tf_33 rfl rfl rfl (by simp) (by simp) (.tmp .nil)),?_⟩
 refine ⟨(.agg rfl (.one rfl rfl .nil)),[.val (.int .i64 v1.1.n),.lst true 1 (Is v1.1.fr),.lst true 1 (Is v1.1.to),.lst true 1 (Is v1.1.id),.lst true 1 (Ls v1.1.cs),.val (.int .i64 v1.2.2)],[1,2,3,4],by simp [Cat.cells,Mnd.cells,UA,U1,IA,I1,LA,L1,BA,B1,EA,E1,E2,eB,eI,eL],by simp,(UpL.refl _)⟩
end Go.Vc.T
namespace Go.Vc.T
open Go Go.Vc Go.Proofs
noncomputable def kC (m:Mnd):Cat:=bC m.f.s.n (klL m) (fun x=>ix m.u x) fun a b=>kBind m (ix b 1) (ix a 2) (ix b 2)
theorem e_klArr {m:Mnd} (hm:m.Is):s_i_Monad_kleisliArrows m=some (klL m):=by
 obtain ⟨l1,l2,l3,l4,l5,l6,l7,l8,l9⟩:=hm.pre.len
 have hc:=hm.pre.f.s
 unfold s_i_Monad_kleisliArrows
 refine acc_bind m.f.s.n.toNat (fun i=>klN m m.f.s.n.toNat i) (e:=klL m) rfl (by omega) (fun i hi=>?_) (by simp [klL];try omega) rfl
 have hL:=klN_len m (by omega) m.f.s.n.toNat i (by omega)
 simp only
 rw [if_pos (by omega)]
 simp only [Option.bind_assoc]
 refine acc_bind m.f.s.n.toNat (fun k=>klN m m.f.s.n.toNat i++klX m i k) (e:=klN m m.f.s.n.toNat (i+1)) (by simp [klX]) (by omega) (fun k hk=>?_) (by simp [klN_succ];try omega) ?_
 ·have hX:=klX_len m (by omega) i k
  simp only
  rw [if_pos (by omega)]
  unfold s_i_Monad_object
  rw [ass_pos (by omega)]
  simp only [Option.bind_some]
  rw [(e_homs hc _ _).2]
  simp only [Option.bind_some,Option.bind_assoc]
  have hH:=homL_len m.f.s i (ix m.f.ob k)
  refine acc_bind (homL m.f.s i (ix m.f.ob k)).length (fun j=>(klN m m.f.s.n.toNat i++klX m i k)++((homL m.f.s i (ix m.f.ob k)).take j).map fun f=>[(i:Int),(k:Int),f]) (e:=klN m m.f.s.n.toNat i++klX m i (k+1)) (by simp) (by omega) (fun j hj=>?_) (by simp [klX_succ,klF]) ?_
  ·have hs:(homL m.f.s i (ix m.f.ob k)).take (j+1)=(homL m.f.s i (ix m.f.ob k)).take j++[ix (homL m.f.s i (ix m.f.ob k)) j]:=by rw [List.take_succ_eq_append_getElem hj,at_ix _ _ hj]
   simp (disch:=omega) [ass_pos,B64,hs,hj];try omega
  try simp only [Option.bind_some]
  rw [ass_pos (by unfold B64;omega)]
 try simp only [Option.bind_some]
 rw [ass_pos (by unfold B64;omega)]
theorem e_lfits (c:Cat):s_s_l02Fits c=some (bo (c.n≤8∧(c.fr.length:Int)≤40)):=by
 unfold s_s_l02Fits
 by_cases h1:c.n≤8<;>by_cases h2:(c.fr.length:Int)≤40<;>simp [h1,h2,bo]
theorem kl_ids {m:Mnd} (hm:m.Is) {x:Nat} (hx:x<m.f.ob.length):[(x:Int),(x:Int),ix m.u x]∈klL m:=by
 obtain ⟨l1,l2,l3,l4,l5,l6,l7,l8,l9⟩:=hm.pre.len
 exact mem_kl.2 ⟨x,x,ix m.u x,by omega,by omega,hm.pre.Au rfl (by omega),rfl⟩
theorem kl_mem {m:Mnd} {i:Nat} (hi:i<(klL m).length):∃ x y f:Int,(0≤x∧x<m.f.s.n)∧(0≤y∧y<m.f.s.n)∧Ar m.f.s f x (ix m.f.ob y)∧rx (klL m) i=[x,y,f]:=mem_kl.1 (at_rxm hi)
theorem e_kBind {m:Mnd} (hm:m.Is) {f g x y z:Int} (hf:Ar m.f.s f x (ix m.f.ob y)) (hg:Ar m.f.s g y (ix m.f.ob z)) (hz:0≤z∧z<(m.f.ob.length:Int)):s_s_l16Bind m z f g=some (kBind m z f g)∧s_i_Monad_binder_c1_v79_55 z f g m.f.s m=some (kBind m z f g):=by
 obtain ⟨l1,l2,l3,l4,l5,l6,l7,l8,l9⟩:=hm.pre.len
 have hc:=hm.pre.f.s
 have a1:=hm.pre.Aa rfl hg
 have a2:=hm.pre.Aj rfl hz
 have t1:=hf.thn hc a1
 have t2:=(hf.two hc a1).thn hc a2
 have hg1:=hg.1
 unfold s_s_l16Bind s_i_Monad_binder_c1_v79_55
 constructor
 ·rw [ass_pos (by omega),t1.1]
  simp only [Option.bind_some]
  rw [ass_pos (by omega),t2.1]
  rfl
 rw [ass_pos (by omega),t1.2]
 simp only [Option.bind_some]
 rw [ass_pos (by omega),t2.2]
 rfl
theorem kl3 {m:Mnd}:∀ x∈klL m,x.length=3:=by
 intro x hx
 obtain ⟨_,_,_,_,_,_,rfl⟩:=mem_kl.1 hx
 rfl
theorem e_l16Kleisli {m:Mnd} (hm:m.Is):s_s_l16Kleisli m=some (if (klL m).length≤40 then kC m else { kC m with cs:=[] },klL m):=by
 obtain ⟨l1,l2,l3,l4,l5,l6,l7,l8,l9⟩:=hm.pre.len
 have hc:=hm.pre.f.s
 have hlen:(klL m).length≤2560:=Nat.le_trans (klN_len m (by omega) m.f.s.n.toNat m.f.s.n.toNat (by omega)) (by omega)
 have c0:=(e_column (L:=klL m) (k:=0) (by omega) (by omega) fun x hx=>by rw [kl3 x hx];omega).2
 have c1:=(e_column (L:=klL m) (k:=1) (by omega) (by omega) fun x hx=>by rw [kl3 x hx];omega).2
 unfold s_s_l16Kleisli
 refine acc_bind m.f.s.n.toNat (fun i=>klN m m.f.s.n.toNat i) (e:=klL m) rfl (by omega) (fun i hi=>?_) (by simp [klL];try omega) ?_
 ·have hL:=klN_len m (by omega) m.f.s.n.toNat i (by omega)
  simp only
  rw [if_pos (by omega)]
  simp only [Option.bind_assoc]
  refine acc_bind m.f.s.n.toNat (fun k=>klN m m.f.s.n.toNat i++klX m i k) (e:=klN m m.f.s.n.toNat (i+1)) (by simp [klX]) (by omega) (fun k hk=>?_) (by simp [klN_succ];try omega) ?_
  ·have hX:=klX_len m (by omega) i k
   simp only
   rw [if_pos (by omega),ass_pos (by omega),(e_homs hc _ _).1]
   simp only [Option.bind_some,Option.bind_assoc]
   have hH:=homL_len m.f.s i (ix m.f.ob k)
   refine acc_bind (homL m.f.s i (ix m.f.ob k)).length (fun j=>(klN m m.f.s.n.toNat i++klX m i k)++((homL m.f.s i (ix m.f.ob k)).take j).map fun f=>[(i:Int),(k:Int),f]) (e:=klN m m.f.s.n.toNat i++klX m i (k+1)) (by simp) (by omega) (fun j hj=>?_) (by simp [klX_succ,klF]) ?_
   ·have hs:(homL m.f.s i (ix m.f.ob k)).take (j+1)=(homL m.f.s i (ix m.f.ob k)).take j++[ix (homL m.f.s i (ix m.f.ob k)) j]:=by rw [List.take_succ_eq_append_getElem hj,at_ix _ _ hj]
    simp (disch:=omega) [ass_pos,B64,hs,hj];try omega
   try simp only [Option.bind_some]
   rw [ass_pos (by unfold B64;omega)]
  try simp only [Option.bind_some]
  rw [ass_pos (by unfold B64;omega)]
 rw [c0,c1]
 simp only [Option.bind_some]
 refine acc_bind m.f.s.n.toNat (fun i=>tab i fun x=>posL (klL m) [(x:Int),(x:Int),ix m.u x]) (e:=tab m.f.s.n.toNat fun x=>posL (klL m) [(x:Int),(x:Int),ix m.u x]) rfl (by omega) (fun i hi=>?_) (by simp;try omega) ?_
 ·simp only
  rw [if_pos (by omega),ass_pos (by omega),e_find (by omega)]
  simp (disch:=omega) [ass_pos,B64,tab_succ];try omega
 by_cases h40:(klL m).length≤40
 ·rw [if_pos h40]
  refine acc_bind (klL m).length (fun i=>tab i fun i=>tab (klL m).length fun j=>if ix (rx (klL m) i) 1=ix (rx (klL m) j) 0 then posL (klL m) [ix (rx (klL m) i) 0,ix (rx (klL m) j) 1,kBind m (ix (rx (klL m) j) 1) (ix (rx (klL m) i) 2) (ix (rx (klL m) j) 2)] else -1) (e:=(kC m).cs) rfl (by omega) (fun i hi=>?_) (by simp [kC,bC]) rfl
  simp only
  rw [if_pos (by omega),e_lfits]
  rw [bo_pos (by simp only [List.length_map];omega)]
  simp only [Option.bind_some,if_true]
  obtain ⟨x,y,f,hx,hy,hf,hi3⟩:=kl_mem hi
  refine acc_bind (klL m).length (fun j=>tab j fun j=>if ix (rx (klL m) i) 1=ix (rx (klL m) j) 0 then posL (klL m) [ix (rx (klL m) i) 0,ix (rx (klL m) j) 1,kBind m (ix (rx (klL m) j) 1) (ix (rx (klL m) i) 2) (ix (rx (klL m) j) 2)] else -1) (e:=tab (klL m).length fun j=>if ix (rx (klL m) i) 1=ix (rx (klL m) j) 0 then posL (klL m) [ix (rx (klL m) i) 0,ix (rx (klL m) j) 1,kBind m (ix (rx (klL m) j) 1) (ix (rx (klL m) i) 2) (ix (rx (klL m) j) 2)] else -1) rfl (by omega) (fun j hj=>?_) (by simp) ?_
  ·obtain ⟨y',z,g,hy',hz,hg,hj3⟩:=kl_mem hj
   simp only
   rw [if_pos (by omega),ass_pos (by omega),ass_pos (by omega),ass_pos (by rw [hi3];simp),ass_pos (by rw [hj3];simp),tab_succ]
   by_cases e:ix (rx (klL m) i) 1=ix (rx (klL m) j) 0
   ·rw [if_pos e,if_pos e,ass_pos (by rw [hi3];simp),ass_pos (by rw [hj3];simp),ass_pos (by rw [hj3];simp),ass_pos (by rw [hi3];simp),ass_pos (by rw [hj3];simp)]
    have e':y=y':=by rw [hi3,hj3] at e;simpa [ix] using e
    subst e'
    have b:=e_kBind hm (f:=ix (rx (klL m) i) 2) (g:=ix (rx (klL m) j) 2) (x:=x) (y:=y) (z:=ix (rx (klL m) j) 1) (by rw [hi3];exact hf) (by rw [hj3];exact hg) (by rw [hj3];show 0≤z∧z<_;omega)
    rw [b.1]
    simp only [Option.bind_some]
    rw [e_find (by omega)]
    simp only [Option.bind_some]
    rw [ass_pos (by simp;omega),ass_pos (by unfold B64;omega)]
   rw [if_neg e,if_neg e]
   simp only [Option.bind_some]
   rw [ass_pos (by simp;omega),ass_pos (by unfold B64;omega)]
  try simp only
  rw [ass_pos (by simp;omega),ass_pos (by unfold B64;omega),tab_succ]
 rw [if_neg h40]
 refine acc_bind 0 (fun _=>[]) (e:=[]) rfl (by omega) (fun i hi=>by omega) ?_ rfl
 simp only
 rw [if_pos (by omega),e_lfits,bo_neg (by simp only [List.length_map];omega)]
 simp
theorem bC_find {L:List (List Int)} (h:Keyed L) {x:List Int} (hx:x∈L):(tfind (keyB x) (plL L)).getD 0=posL L x:=by
 obtain ⟨j,_,_,h3,h4⟩:=h.at hx
 unfold plL
 rw [h3,h4]
 rfl
theorem e_kleisli {m:Mnd} (hm:m.Is):s_i_Monad_kleisli m=some (if (klL m).length≤40 then (kC m,klL m,true) else (⟨0,[],[],[],[]⟩,[],false)):=by
 obtain ⟨l1,l2,l3,l4,l5,l6,l7,l8,l9⟩:=hm.pre.len
 have hk:=kl_keyed (m:=m) (by omega) (by omega)
 have hlen:(klL m).length≤2560:=Nat.le_trans (klN_len m (by omega) m.f.s.n.toNat m.f.s.n.toNat (by omega)) (by omega)
 have c0:=(e_column (L:=klL m) (k:=0) (by omega) (by omega) fun x hx=>by rw [kl3 x hx];omega).1
 have c1:=(e_column (L:=klL m) (k:=1) (by omega) (by omega) fun x hx=>by rw [kl3 x hx];omega).1
 unfold s_i_Monad_kleisli
 rw [e_klArr hm]
 simp only [Option.bind_some]
 by_cases h40:(klL m).length≤40
 case neg=>rw [if_pos (by omega),if_neg h40]
 rw [if_neg (by omega),if_pos h40,e_places (by omega) fun x hx=>by rw [kl3 x hx];omega]
 simp only [Option.bind_some]
 rw [c0,c1]
 simp only [Option.bind_some]
 refine acc_bind m.f.s.n.toNat (fun i=>tab i fun x=>posL (klL m) [(x:Int),(x:Int),ix m.u x]) (e:=tab m.f.s.n.toNat fun x=>posL (klL m) [(x:Int),(x:Int),ix m.u x]) rfl (by omega) (fun i hi=>?_) (by simp;try omega) ?_
 ·simp only
  rw [if_pos (by omega),ass_pos (by omega),e_key (by simp)]
  simp only [Option.bind_some]
  rw [bC_find hk (kl_ids hm (by omega))]
  simp (disch:=omega) [ass_pos,B64,tab_succ];try omega
 unfold s_i_Category_arrows
 simp only [Option.bind_some,List.length_map,Int.toNat_natCast]
 rw [ass_pos (by omega),Option.bind_assoc]
 refine acc_bind (klL m).length (fun i=>mixr (klL m).length i (fun i=>tab (klL m).length fun j=>if ix (rx (klL m) i) 1=ix (rx (klL m) j) 0 then posL (klL m) [ix (rx (klL m) i) 0,ix (rx (klL m) j) 1,kBind m (ix (rx (klL m) j) 1) (ix (rx (klL m) i) 2) (ix (rx (klL m) j) 2)] else -1) []) (e:=(kC m).cs) (mixr_zero _ _ _).symm (by omega) (fun i hi=>?_) (by simp [mixr_all,kC,bC]) rfl
 obtain ⟨x,y,f,hx,hy,hf,hi3⟩:=kl_mem hi
 have ei:∀ k,ix ((klL m).map (ix · k)) i=ix (rx (klL m) i) k:=fun k=>by simp [ix,rx,List.getD_eq_getElem?_getD,hi]
 simp only
 rw [if_pos (by simp;omega),ass_pos (by omega),ass_pos (by simp;omega),ass_pos (by simp;omega),Option.bind_assoc]
 simp only [Int.toNat_natCast]
 rw [rx_set (by simp;omega)]
 refine acc_bind (klL m).length (fun k=>(mixr (klL m).length i (fun i=>tab (klL m).length fun j=>if ix (rx (klL m) i) 1=ix (rx (klL m) j) 0 then posL (klL m) [ix (rx (klL m) i) 0,ix (rx (klL m) j) 1,kBind m (ix (rx (klL m) j) 1) (ix (rx (klL m) i) 2) (ix (rx (klL m) j) 2)] else -1) []).set i (mixr (klL m).length k (fun j=>if ix (rx (klL m) i) 1=ix (rx (klL m) j) 0 then posL (klL m) [ix (rx (klL m) i) 0,ix (rx (klL m) j) 1,kBind m (ix (rx (klL m) j) 1) (ix (rx (klL m) i) 2) (ix (rx (klL m) j) 2)] else -1) 0)) (e:=(mixr (klL m).length i (fun i=>tab (klL m).length fun j=>if ix (rx (klL m) i) 1=ix (rx (klL m) j) 0 then posL (klL m) [ix (rx (klL m) i) 0,ix (rx (klL m) j) 1,kBind m (ix (rx (klL m) j) 1) (ix (rx (klL m) i) 2) (ix (rx (klL m) j) 2)] else -1) []).set i (tab (klL m).length fun j=>if ix (rx (klL m) i) 1=ix (rx (klL m) j) 0 then posL (klL m) [ix (rx (klL m) i) 0,ix (rx (klL m) j) 1,kBind m (ix (rx (klL m) j) 1) (ix (rx (klL m) i) 2) (ix (rx (klL m) j) 2)] else -1)) (by simp [mixr_zero]) (by omega) (fun k hk2=>?_) (by simp [mixr_all]) ?_
 ·obtain ⟨y',z,g,hy',hz,hg,hj3⟩:=kl_mem hk2
  have ek:∀ q,ix ((klL m).map (ix · q)) k=ix (rx (klL m) k) q:=fun q=>by simp [ix,rx,List.getD_eq_getElem?_getD,hk2]
  have hl:i<(mixr (klL m).length i (fun i=>tab (klL m).length fun j=>if ix (rx (klL m) i) 1=ix (rx (klL m) j) 0 then posL (klL m) [ix (rx (klL m) i) 0,ix (rx (klL m) j) 1,kBind m (ix (rx (klL m) j) 1) (ix (rx (klL m) i) 2) (ix (rx (klL m) j) 2)] else -1) []).length:=by simpa using hi
  simp only
  rw [if_pos (by simp;omega)]
  simp only [Int.toNat_natCast,rx_set hl,List.set_set]
  rw [ass_pos (by simp;omega),ass_pos (by simp;omega),ass_pos (by simp;omega),ass_pos (by simp;omega),ei,ek]
  by_cases e:ix (rx (klL m) i) 1=ix (rx (klL m) k) 0
  ·rw [if_pos e,ass_pos (by simp;omega)]
   have e':y=y':=by rw [hi3,hj3] at e;simpa [ix] using e
   subst e'
   have f0:Ar m.f.s (ix (rx (klL m) i) 2) x (ix m.f.ob y):=by rw [hi3];exact hf
   have g0:Ar m.f.s (ix (rx (klL m) k) 2) y (ix m.f.ob (ix (rx (klL m) k) 1)):=by rw [hj3];exact hg
   have z0:0≤ix (rx (klL m) k) 1∧ix (rx (klL m) k) 1<(m.f.ob.length:Int):=by rw [hj3];show 0≤z∧z<_;omega
   have b:=e_kBind hm f0 g0 z0
   have hin:[ix (rx (klL m) i) 0,ix (rx (klL m) k) 1,kBind m (ix (rx (klL m) k) 1) (ix (rx (klL m) i) 2) (ix (rx (klL m) k) 2)]∈klL m:=by
    refine mem_kl.2 ⟨x,ix (rx (klL m) k) 1,_,hx,by omega,kl_bind hm f0 g0 z0,?_⟩
    rw [hi3];rfl
   unfold s_i_Monad_kleisli_c1_v23_88_92
   rw [ass_pos (by omega),ass_pos (by omega),ass_pos (by rw [hi3];simp),ass_pos (by rw [hj3];simp),ass_pos (by rw [hj3];simp),ass_pos (by rw [hi3];simp),ass_pos (by rw [hj3];simp),b.2]
   simp only [Option.bind_some]
   rw [e_key (by simp)]
   simp only [Option.bind_some]
   rw [bC_find hk hin,ass_pos (by simp;omega)]
   simp only [Option.bind_some]
   rw [ass_pos (by unfold B64;omega)]
   have:=mixr_set (m:=(klL m).length) (g:=k) (v:=fun j=>if ix (rx (klL m) i) 1=ix (rx (klL m) j) 0 then posL (klL m) [ix (rx (klL m) i) 0,ix (rx (klL m) j) 1,kBind m (ix (rx (klL m) j) 1) (ix (rx (klL m) i) 2) (ix (rx (klL m) j) 2)] else -1) (z:=0)
   rw [← this,if_pos e]
  rw [if_neg e]
  simp only [Option.bind_some]
  rw [ass_pos (by unfold B64;omega)]
  have:=mixr_set (m:=(klL m).length) (g:=k) (v:=fun j=>if ix (rx (klL m) i) 1=ix (rx (klL m) j) 0 then posL (klL m) [ix (rx (klL m) i) 0,ix (rx (klL m) j) 1,kBind m (ix (rx (klL m) j) 1) (ix (rx (klL m) i) 2) (ix (rx (klL m) j) 2)] else -1) (z:=0)
  rw [← this,if_neg e]
 simp only [Option.bind_some]
 rw [ass_pos (by unfold B64;omega),← mixr_set]
def zeroC:Cat:=⟨0,[],[],[],[]⟩
theorem zeroC_ok:zeroC.ok∧zeroC.size≤2000:=by simp [zeroC,Cat.ok,Cat.size,sumL]
theorem e_kCode (m:Mnd):∃ r,s_s_l16Code m=some r∧s_i_kleisliCode m=some r∧(r.1.ok∧r.1.size≤2000)∧(r.2.1.length≤40∧∀ x∈r.2.1,x.length≤3)∧(r.2.2=0→m.Is∧(klL m).length≤40∧r=(kC m,klL m,0)):=by
 unfold s_s_l16Code s_i_kleisliCode
 rw [e_l16Is,e_isMonad]
 by_cases hm:m.Is
 case neg=>exact ⟨(zeroC,[],1),by simp [bo_neg hm,zeroC],by simp [bo_neg hm,zeroC],zeroC_ok,by simp,by simp⟩
 obtain ⟨l1,l2,l3,l4,l5,l6,l7,l8,l9⟩:=hm.pre.len
 simp only [bo_pos hm,Option.bind_some,not_true_eq_false,if_false,e_l16Kleisli hm,e_kleisli hm]
 by_cases h40:(klL m).length≤40
 ·refine ⟨(kC m,klL m,0),?_,?_,bC_ok (by omega) h40,⟨h40,fun x hx=>by rw [kl3 x hx];omega⟩,fun _=>⟨hm,h40,rfl⟩⟩
  ·rw [if_pos h40,e_lfits,bo_pos (by simp [kC,bC];omega)];simp
  rw [if_pos h40];simp
 refine ⟨(zeroC,[],3),?_,?_,zeroC_ok,by simp,by simp⟩
 ·rw [if_neg h40,e_lfits,bo_neg (by simp [kC,bC];omega)];simp [zeroC]
 rw [if_neg h40];simp [zeroC]
theorem m_KleisliCategory (m:Mnd):∃ r,s_s_KleisliCategory m=some r∧s_i_KleisliCategory m=some r∧r.1.ok∧r.1.size≤2000:=by
 obtain ⟨r,h1,h2,h3,_⟩:=e_kCode m
 unfold s_s_KleisliCategory s_i_KleisliCategory
 rw [h1,h2]
 exact ⟨(r.1,r.2.2),rfl,rfl,h3⟩
end Go.Vc.T
