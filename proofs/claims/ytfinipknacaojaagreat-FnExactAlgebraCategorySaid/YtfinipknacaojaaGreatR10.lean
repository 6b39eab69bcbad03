/- A part of the proof: a verified generator of conditions, and what each function of the program does. -/
import Derived.Test.YtfinipknacaojaaGreatR9
set_option maxRecDepth 100000
set_option maxHeartbeats 4000000
set_option linter.unusedSimpArgs false
set_option linter.unusedVariables false

namespace Go.Vc.T
open Go Go.Vc Go.Proofs
noncomputable def Q4u (lists_:List (List Int)):Option ByteArray :=
 (QI (σ:=List Int × Int) (ε:=List Int) (fun s16 =>
  if s16.2<(lists_.length:Int) then
   ass (0≤s16.2∧s16.2<(lists_.length:Int)) <|
   (QI (σ:=List Int × Int) (ε:=List Int) (fun s24 =>
    if s24.2<((rx lists_ s16.2).length:Int) then
     ass (0≤s24.2∧s24.2<((rx lists_ s16.2).length:Int)) <|
     ass ((s24.1++[IntKind.u8.wrap (ix (rx lists_ s16.2) s24.2)]).length≤1073741824) <|
     ass (B64 (s24.2+1)) <|
     some (Ctl.next (s24.1++[IntKind.u8.wrap (ix (rx lists_ s16.2) s24.2)],s24.2+1))
    else
     some (Ctl.ret s24.1)) fuel (s16.1,0)).bind fun b19 =>
   ass ((b19++[255]).length≤1073741824) <|
   ass (B64 (s16.2+1)) <|
   some (Ctl.next (b19++[255],s16.2+1))
  else
   some (Ctl.ret s16.1)) fuel ([],0)).bind fun b1 =>
 some (Q1Q b1)
theorem w_i_key (lists_:List (List Int)) (r:ByteArray) (h:Q4u lists_=some r):Contract Tryz.prog 53 [.lst true 1 (Ls lists_)] (.val (.string r)):=by
 refine Qk (rvs:=[.tmp 2]) (rs:=[.val (.string r)]) Tryz.func53 rfl rfl rfl rfl (by simp [Tryz.f53]) fun F hN hP=>?_
 unfold Q4u at h
 refine Q8 ?_
 refine runQ hN fun K hK=>?_
 simp [-Q0,-Q9,-Q3,-Qa,-Q4,eL,eI,Q2]
 repeat with_reducible refine sdQ ?_
 refine hK _ ?_;clear hK K
 refine tn ?_
 refine Qd (st':=⟨[(0,.lst true 1 (Ls lists_))],[],0⟩) (Wk.r1 [] (by simp [hP,hhOk,back,UA,U1,IA,I1,LA,L1,BA,B1,EA,E1,E2,eB,eI,eL])) ?_
 refine Q8 ?_
 refine runQ hN fun K hK=>?_
 simp [-Q0,-Q9,-Q3,-Qa,-Q4,eL,eI,Q2]
 repeat with_reducible refine sdQ ?_
 refine hK _ ?_;clear hK K
 refine tn ?_
 refine Qd (st':=⟨[(0,.lst true 1 (Ls lists_)),(3,.own 0 0 0)],[(0,.mix 1 [])],1⟩) (Wk.r1 [(0,0)] (by simp [hP,hhOk,back,UA,U1,IA,I1,LA,L1,BA,B1,EA,E1,E2,eB,eI,eL])) ?_
 refine Q8 ?_
 refine Q8 ?_
 refine runQ hN fun K hK=>?_
 simp [-Q0,-Q9,-Q3,-Qa,-Q4,eL,eI,Q2]
 repeat with_reducible refine sdQ ?_
 refine hK _ ?_;clear hK K
 refine tn ?_
 refine Qd (st':=⟨[(3,.own 0 0 0),(9,.lst true 1 (Ls lists_)),(10,.val (.int .i64 (lists_.length:Int))),(11,.val (.int .i64 0))],[(0,.mix 1 [])],1⟩) (Wk.r1 [(0,0)] (by simp [hP,hhOk,back,UA,U1,IA,I1,LA,L1,BA,B1,EA,E1,E2,eB,eI,eL])) ?_
 replace h:=bind_some h
 obtain ⟨e1,h,h1⟩:=h
 refine Qp (fun b1:List Int=>⟨[(3,.own 0 0 b1.length)],[(0,.row 1 (Us b1))],1⟩) (fun b1=>b1=e1) ?_ ?_
 ·refine Qh ?_
  refine QD h (fun s16:List Int × Int=>⟨[(3,.own 0 0 s16.1.length),(9,.lst true 1 (Ls lists_)),(10,.val (.int .i64 (lists_.length:Int))),(11,.val (.int .i64 s16.2))],[(0,.row 1 (Us s16.1))],1⟩) (Q3J ⟨[(3,.own 0 0 0),(9,.lst true 1 (Ls lists_)),(10,.val (.int .i64 (lists_.length:Int))),(11,.val (.int .i64 0))],[(0,.row 1 (Us []))],1⟩ (Wk.nils [] (by simp) (by simp) (by simp [nlA]) (by simp [entN,nlL,nlA,UA,U1,IA,I1,LA,L1,BA,B1,EA,E1,E2,eB,eI,eL]) (by simp)) (Wk.r1 [(0,0)] (by simp [hP,hhOk,back,UA,U1,IA,I1,LA,L1,BA,B1,EA,E1,E2,eB,eI,eL]))) ?_
  clear h
  intro k16 s16 c16 h hk16
  refine Q8 ?_
  refine runQ hN fun K hK=>?_
  simp [-Q0,-Q9,-Q3,-Qa,-Q4,eL,eI,Q2]
  repeat with_reducible refine sdQ ?_
  refine hK _ ?_;clear hK K
  refine tn ?_
  refine Qd (st':=⟨[(3,.own 0 0 s16.1.length),(9,.lst true 1 (Ls lists_)),(10,.val (.int .i64 (lists_.length:Int))),(11,.val (.int .i64 s16.2)),(12,.val (.bool (decide (s16.2<(lists_.length:Int)))))],[(0,.row 1 (Us s16.1))],1⟩) (Wk.r1 [(0,0)] (by simp [hP,hhOk,back,UA,U1,IA,I1,LA,L1,BA,B1,EA,E1,E2,eB,eI,eL])) ?_
  refine Q8 ?_
  refine Qi rfl (fun g=>?_) fun g=>?_
  ·have g17:s16.2<(lists_.length:Int):=gQ
   clear g
   replace h:=if_l g17 h
   refine Qj ?_
   refine tn ?_
   refine Q8 ?_
   refine Qh ?_
   refine Q8 ?_
   refine runQ hN fun K hK=>?_
   replace h:=Qc h
   obtain ⟨a18,h⟩:=h
   simp [-Q0,-Q9,-Q3,-Qa,-Q4,eL,eI,Q2,at_L a18]
   repeat with_reducible refine sdQ ?_
   refine hK _ ?_;clear hK K
   refine tn ?_
   refine Qd (st':=⟨[(3,.own 0 0 s16.1.length),(5,.lst true 1 (Is (rx lists_ s16.2))),(9,.lst true 1 (Ls lists_)),(10,.val (.int .i64 (lists_.length:Int))),(11,.val (.int .i64 s16.2))],[(0,.row 1 (Us s16.1))],1⟩) (Wk.r1 [(0,0)] (by simp [hP,hhOk,back,UA,U1,IA,I1,LA,L1,BA,B1,EA,E1,E2,eB,eI,eL])) ?_
   refine Q8 ?_
   refine Q8 ?_
   refine runQ hN fun K hK=>?_
   simp [-Q0,-Q9,-Q3,-Qa,-Q4,eL,eI,Q2]
   repeat with_reducible refine sdQ ?_
   refine hK _ ?_;clear hK K
   refine tn ?_
   refine Qd (st':=⟨[(3,.own 0 0 s16.1.length),(9,.lst true 1 (Ls lists_)),(10,.val (.int .i64 (lists_.length:Int))),(11,.val (.int .i64 s16.2)),(15,.lst true 1 (Is (rx lists_ s16.2))),(16,.val (.int .i64 ((rx lists_ s16.2).length:Int))),(17,.val (.int .i64 0))],[(0,.row 1 (Us s16.1))],1⟩) (Wk.r1 [(0,0)] (by simp [hP,hhOk,back,UA,U1,IA,I1,LA,L1,BA,B1,EA,E1,E2,eB,eI,eL])) ?_
   replace h:=bind_some h
   obtain ⟨e19,h,h19⟩:=h
   refine Qp (fun b19:List Int=>⟨[(3,.own 0 0 b19.length),(9,.lst true 1 (Ls lists_)),(10,.val (.int .i64 (lists_.length:Int))),(11,.val (.int .i64 s16.2))],[(0,.row 1 (Us b19))],1⟩) (fun b19=>b19=e19) ?_ ?_
   ·refine Qh ?_
    refine QD h (fun s24:List Int × Int=>⟨[(3,.own 0 0 s24.1.length),(9,.lst true 1 (Ls lists_)),(10,.val (.int .i64 (lists_.length:Int))),(11,.val (.int .i64 s16.2)),(15,.lst true 1 (Is (rx lists_ s16.2))),(16,.val (.int .i64 ((rx lists_ s16.2).length:Int))),(17,.val (.int .i64 s24.2))],[(0,.row 1 (Us s24.1))],1⟩) (Wk.r1 [(0,0)] (by simp [hP,hhOk,back,UA,U1,IA,I1,LA,L1,BA,B1,EA,E1,E2,eB,eI,eL])) ?_
    clear h
    intro k24 s24 c24 h hk24
    refine Q8 ?_
    refine runQ hN fun K hK=>?_
    simp [-Q0,-Q9,-Q3,-Qa,-Q4,eL,eI,Q2]
    repeat with_reducible refine sdQ ?_
    refine hK _ ?_;clear hK K
    refine tn ?_
    refine Qd (st':=⟨[(3,.own 0 0 s24.1.length),(9,.lst true 1 (Ls lists_)),(10,.val (.int .i64 (lists_.length:Int))),(11,.val (.int .i64 s16.2)),(15,.lst true 1 (Is (rx lists_ s16.2))),(16,.val (.int .i64 ((rx lists_ s16.2).length:Int))),(17,.val (.int .i64 s24.2)),(18,.val (.bool (decide (s24.2<((rx lists_ s16.2).length:Int)))))],[(0,.row 1 (Us s24.1))],1⟩) (Wk.r1 [(0,0)] (by simp [hP,hhOk,back,UA,U1,IA,I1,LA,L1,BA,B1,EA,E1,E2,eB,eI,eL])) ?_
    refine Q8 ?_
    refine Qi rfl (fun g=>?_) fun g=>?_
    ·have g25:s24.2<((rx lists_ s16.2).length:Int):=gQ
     clear g
     replace h:=if_l g25 h
     refine Qj ?_
     refine tn ?_
     refine Q8 ?_
     refine Qh ?_
     refine Q8 ?_
     refine runQ hN fun K hK=>?_
     replace h:=Qc h
     obtain ⟨a26,h⟩:=h
     simp [-Q0,-Q9,-Q3,-Qa,-Q4,eL,eI,Q2,at_I a26]
     repeat with_reducible refine sdQ ?_
     refine hK _ ?_;clear hK K
     refine tn ?_
     refine Qd (st':=⟨[(3,.own 0 0 s24.1.length),(7,.val (.int .i64 (ix (rx lists_ s16.2) s24.2))),(9,.lst true 1 (Ls lists_)),(10,.val (.int .i64 (lists_.length:Int))),(11,.val (.int .i64 s16.2)),(15,.lst true 1 (Is (rx lists_ s16.2))),(16,.val (.int .i64 ((rx lists_ s16.2).length:Int))),(17,.val (.int .i64 s24.2))],[(0,.row 1 (Us s24.1))],1⟩) (Wk.r1 [(0,0)] (by simp [hP,hhOk,back,UA,U1,IA,I1,LA,L1,BA,B1,EA,E1,E2,eB,eI,eL])) ?_
     refine runQ hN fun K hK=>?_
     replace h:=Qc h
     obtain ⟨a27,h⟩:=h
     try simp only [List.length_append,List.length_cons,List.length_nil] at a27
     simp [-Q0,-Q9,-Q3,-Qa,-Q4,eL,eI,Q2,a27]
     repeat with_reducible refine sdQ ?_
     refine hK _ ?_;clear hK K
     refine bn ?_
     refine tn ?_
     refine Qd (st':=⟨[(3,.own 0 0 ((s24.1++[IntKind.u8.wrap (ix (rx lists_ s16.2) s24.2)]).length)),(9,.lst true 1 (Ls lists_)),(10,.val (.int .i64 (lists_.length:Int))),(11,.val (.int .i64 s16.2)),(15,.lst true 1 (Is (rx lists_ s16.2))),(16,.val (.int .i64 ((rx lists_ s16.2).length:Int))),(17,.val (.int .i64 s24.2))],[(0,.row 1 (Us (s24.1++[IntKind.u8.wrap (ix (rx lists_ s16.2) s24.2)])))],1⟩) (Wk.r1 [(2,0)] (by simp [hP,hhOk,back,UA,U1,IA,I1,LA,L1,BA,B1,EA,E1,E2,eB,eI,eL])) ?_
     refine runQ hN fun K hK=>?_
     replace h:=Qc h
     obtain ⟨a28,h⟩:=h
     simp [-Q0,-Q9,-Q3,-Qa,-Q4,eL,eI,Q2,QA a28]
     repeat with_reducible refine sdQ ?_
     refine hK _ ?_;clear hK K
     cases h
     exact rn (s':=(s24.1++[IntKind.u8.wrap (ix (rx lists_ s16.2) s24.2)],s24.2+1)) hk24 (Wk.r1 [(0,0)] (by simp [hP,hhOk,back,UA,U1,IA,I1,LA,L1,BA,B1,EA,E1,E2,eB,eI,eL]))
    have g25:¬ (s24.2<((rx lists_ s16.2).length:Int)):=gQ
    clear g
    replace h:=if_r g25 h
    refine Qu ?_
    refine tx ?_
    refine lx ?_
    refine bh ?_
    cases h
    exact jn (b:=s24.1) hk24 (Wk.r1 [(0,0)] (by simp [hP,hhOk,back,UA,U1,IA,I1,LA,L1,BA,B1,EA,E1,E2,eB,eI,eL]))
   intro b19 hb19
   have h:=h19
   rw [← hb19] at h
   clear h19
   try dsimp only at h
   refine runQ hN fun K hK=>?_
   replace h:=Qc h
   obtain ⟨a29,h⟩:=h
   try simp only [List.length_append,List.length_cons,List.length_nil] at a29
   simp [-Q0,-Q9,-Q3,-Qa,-Q4,eL,eI,Q2,a29]
   repeat with_reducible refine sdQ ?_
   refine hK _ ?_;clear hK K
   refine bn ?_
   refine tn ?_
   refine Qd (st':=⟨[(3,.own 0 0 ((b19++[255]).length)),(9,.lst true 1 (Ls lists_)),(10,.val (.int .i64 (lists_.length:Int))),(11,.val (.int .i64 s16.2))],[(0,.row 1 (Us (b19++[255])))],1⟩) (Wk.r1 [(2,0)] (by simp [hP,hhOk,back,UA,U1,IA,I1,LA,L1,BA,B1,EA,E1,E2,eB,eI,eL])) ?_
   refine runQ hN fun K hK=>?_
   replace h:=Qc h
   obtain ⟨a30,h⟩:=h
   simp [-Q0,-Q9,-Q3,-Qa,-Q4,eL,eI,Q2,QA a30]
   repeat with_reducible refine sdQ ?_
   refine hK _ ?_;clear hK K
   cases h
   exact rn (s':=(b19++[255],s16.2+1)) hk16 (Wk.r1 [(0,0)] (by simp [hP,hhOk,back,UA,U1,IA,I1,LA,L1,BA,B1,EA,E1,E2,eB,eI,eL]))
  have g17:¬ (s16.2<(lists_.length:Int)):=gQ
  clear g
  replace h:=if_r g17 h
  refine Qu ?_
  refine tx ?_
  refine lx ?_
  refine bh ?_
  cases h
  exact jn (b:=s16.1) hk16 (Wk.r1 [(0,0)] (by simp [hP,hhOk,back,UA,U1,IA,I1,LA,L1,BA,B1,EA,E1,E2,eB,eI,eL]))
 intro b1 hb1
 have h:=h1
 rw [← hb1] at h
 clear h1
 try dsimp only at h
 refine Q8 ?_
 refine Qw [32] mo (by rw [hN];decide) fun K hK=>?_
 simp [-Q0,-Q9,-Q3,-Qa,-Q4,eL,eI,Q2]
 repeat with_reducible refine sdQ ?_
 refine hK _ ?_;clear hK K
 refine tn ?_
 refine Qd (st':=⟨[(2,.val (.string (Q1Q b1)))],[],0⟩) (Wk.r1 [] (by simp [hP,hhOk,back,UA,U1,IA,I1,LA,L1,BA,B1,EA,E1,E2,eB,eI,eL])) ?_
 refine Qn ?_
 have hr:=Option.some.inj h
 rw [← hr]
 refine ⟨_,(.tmp .nil),?_⟩
 refine ⟨(.one rfl rfl .nil),[.val (.string (Q1Q b1))],[],by simp [UA,U1,IA,I1,LA,L1,BA,B1,EA,E1,E2,eB,eI,eL],by simp,(UpL.refl _)⟩
end Go.Vc.T
namespace Go.Vc.T
open Go Go.Vc Go.Proofs
noncomputable def Q2t (list_:List (List Int)):Option (List (ByteArray × Int)) :=
 (QI (σ:=(List (ByteArray × Int)) × Int) (ε:=List (ByteArray × Int)) (fun s7 =>
  if s7.2<(list_.length:Int) then
   ass (0≤s7.2∧s7.2<(list_.length:Int)) <|
   (Q4u [rx list_ s7.2]).bind fun v10 =>
   ass (s7.1.length<1099511627776) <|
   ass (B64 (s7.2+1)) <|
   some (Ctl.next (tset v10 s7.2 s7.1,s7.2+1))
  else
   some (Ctl.ret s7.1)) fuel ([],0)).bind fun b1 =>
 some b1
theorem Q9c (list_:List (List Int)) (r:List (ByteArray × Int)) (h:Q2t list_=some r):FContract Tryz.prog false 52 [.lst true 1 (Ls list_)] (.cmap .str (Msi r)):=by
 refine Q3j false (ts:=[2]) (rs:=[.cmap .str (Msi r)]) Tryz.func52 rfl rfl rfl rfl (by simp [Tryz.f52]) fun F hN hP=>?_
 unfold Q2t at h
 refine Q8 ?_
 refine Qw [] mo (by rw [hN];decide) fun K hK=>?_
 simp [-Q0,-Q9,-Q3,-Qa,-Q4,eL,eI,Q2]
 repeat with_reducible refine sdQ ?_
 refine hK _ ?_;clear hK K
 refine tn ?_
 refine Qd (st':=⟨[(0,.lst true 1 (Ls list_))],[],0⟩) (Wk.r1 [] (by simp [hP,hhOk,back,UA,U1,IA,I1,LA,L1,BA,B1,EA,E1,E2,eB,eI,eL])) ?_
 refine Q8 ?_
 refine Qw [] mo (by rw [hN];decide) fun K hK=>?_
 simp [-Q0,-Q9,-Q3,-Qa,-Q4,eL,eI,Q2]
 repeat with_reducible refine sdQ ?_
 refine hK _ ?_;clear hK K
 refine tn ?_
 refine Qd (st':=⟨[(0,.lst true 1 (Ls list_)),(3,.mp 0)],[(0,.mapE .str (Msi []))],1⟩) (Wk.r1 [(0,0)] (by simp [hP,hhOk,back,UA,U1,IA,I1,LA,L1,BA,B1,EA,E1,E2,eB,eI,eL])) ?_
 refine Q8 ?_
 refine Q8 ?_
 refine Qw [] mo (by rw [hN];decide) fun K hK=>?_
 simp [-Q0,-Q9,-Q3,-Qa,-Q4,eL,eI,Q2]
 repeat with_reducible refine sdQ ?_
 refine hK _ ?_;clear hK K
 refine tn ?_
 refine Qd (st':=⟨[(3,.mp 0),(7,.lst true 1 (Ls list_)),(8,.val (.int .i64 (list_.length:Int))),(9,.val (.int .i64 0))],[(0,.mapE .str (Msi []))],1⟩) (Wk.r1 [(0,0)] (by simp [hP,hhOk,back,UA,U1,IA,I1,LA,L1,BA,B1,EA,E1,E2,eB,eI,eL])) ?_
 replace h:=bind_some h
 obtain ⟨e1,h,h1⟩:=h
 refine Qp (fun b1:List (ByteArray × Int)=>⟨[(3,.mp 0)],[(0,.mapE .str (Msi b1))],1⟩) (fun b1=>b1=e1) ?_ ?_
 ·refine Qh ?_
  refine QD h (fun s7:(List (ByteArray × Int)) × Int=>⟨[(3,.mp 0),(7,.lst true 1 (Ls list_)),(8,.val (.int .i64 (list_.length:Int))),(9,.val (.int .i64 s7.2))],[(0,.mapE .str (Msi s7.1))],1⟩) (Wk.r1 [(0,0)] (by simp [hP,hhOk,back,UA,U1,IA,I1,LA,L1,BA,B1,EA,E1,E2,eB,eI,eL])) ?_
  clear h
  intro k7 s7 c7 h hk7
  refine Q8 ?_
  refine Qw [] mo (by rw [hN];decide) fun K hK=>?_
  simp [-Q0,-Q9,-Q3,-Qa,-Q4,eL,eI,Q2]
  repeat with_reducible refine sdQ ?_
  refine hK _ ?_;clear hK K
  refine tn ?_
  refine Qd (st':=⟨[(3,.mp 0),(7,.lst true 1 (Ls list_)),(8,.val (.int .i64 (list_.length:Int))),(9,.val (.int .i64 s7.2)),(10,.val (.bool (decide (s7.2<(list_.length:Int)))))],[(0,.mapE .str (Msi s7.1))],1⟩) (Wk.r1 [(0,0)] (by simp [hP,hhOk,back,UA,U1,IA,I1,LA,L1,BA,B1,EA,E1,E2,eB,eI,eL])) ?_
  refine Q8 ?_
  refine Qi rfl (fun g=>?_) fun g=>?_
  ·have g8:s7.2<(list_.length:Int):=gQ
   clear g
   replace h:=if_l g8 h
   refine Qj ?_
   refine tn ?_
   refine Q8 ?_
   refine Qh ?_
   refine Q8 ?_
   refine Qw [] mo (by rw [hN];decide) fun K hK=>?_
   replace h:=Qc h
   obtain ⟨a9,h⟩:=h
   simp [-Q0,-Q9,-Q3,-Qa,-Q4,eL,eI,Q2,at_L a9]
   repeat with_reducible refine sdQ ?_
   refine hK _ ?_;clear hK K
   refine tn ?_
   refine Qd (st':=⟨[(3,.mp 0),(4,.val (.int .i64 s7.2)),(5,.lst true 1 (Is (rx list_ s7.2))),(7,.lst true 1 (Ls list_)),(8,.val (.int .i64 (list_.length:Int))),(9,.val (.int .i64 s7.2))],[(0,.mapE .str (Msi s7.1))],1⟩) (Wk.r1 [(0,0)] (by simp [hP,hhOk,back,UA,U1,IA,I1,LA,L1,BA,B1,EA,E1,E2,eB,eI,eL])) ?_
   refine Qw [] mo (by rw [hN];decide) fun K hK=>?_
   simp [-Q0,-Q9,-Q3,-Qa,-Q4,eL,eI,Q2]
   repeat with_reducible refine sdQ ?_
   replace h:=bind_some h
   obtain ⟨v10,hv10,h⟩:=h
   refine QZ (fz:=[]) (w_i_key _ v10 hv10) (.cons (.lits (es:=_) rfl (.cons rfl (.cons .lst .nil) .nil) rfl) .nil) ?_
   replace h:=Qc h
   obtain ⟨a11,h⟩:=h
   simp [-Q0,-Q9,-Q3,-Qa,-Q4,unk,unA,unE,unT,unC,flat,eL,eI,Q2,a11]
   repeat with_reducible refine sdQ ?_
   refine hK _ ?_;clear hK K
   refine bn ?_
   refine tn ?_
   refine Qd (st':=⟨[(3,.mp 0),(7,.lst true 1 (Ls list_)),(8,.val (.int .i64 (list_.length:Int))),(9,.val (.int .i64 s7.2))],[(0,.mapE .str (Msi (tset v10 s7.2 s7.1)))],1⟩) (Wk.r1 [(0,0)] (by simp [hP,hhOk,back,UA,U1,IA,I1,LA,L1,BA,B1,EA,E1,E2,eB,eI,eL])) ?_
   refine Qw [] mo (by rw [hN];decide) fun K hK=>?_
   replace h:=Qc h
   obtain ⟨a12,h⟩:=h
   simp [-Q0,-Q9,-Q3,-Qa,-Q4,eL,eI,Q2,QA a12]
   repeat with_reducible refine sdQ ?_
   refine hK _ ?_;clear hK K
   cases h
   exact rn (s':=(tset v10 s7.2 s7.1,s7.2+1)) hk7 (Wk.r1 [(0,0)] (by simp [hP,hhOk,back,UA,U1,IA,I1,LA,L1,BA,B1,EA,E1,E2,eB,eI,eL]))
  have g8:¬ (s7.2<(list_.length:Int)):=gQ
  clear g
  replace h:=if_r g8 h
  refine Qu ?_
  refine tx ?_
  refine lx ?_
  refine bh ?_
  cases h
  exact jn (b:=s7.1) hk7 (Wk.r1 [(0,0)] (by simp [hP,hhOk,back,UA,U1,IA,I1,LA,L1,BA,B1,EA,E1,E2,eB,eI,eL]))
 intro b1 hb1
 have h:=h1
 rw [← hb1] at h
 clear h1
 try dsimp only at h
 refine Q8 ?_
 refine Qw [] mo (by rw [hN];decide) fun K hK=>?_
 simp [-Q0,-Q9,-Q3,-Qa,-Q4,eL,eI,Q2]
 repeat with_reducible refine sdQ ?_
 refine hK _ ?_;clear hK K
 refine tn ?_
 refine Qd (st':=⟨[(2,.mp 0)],[(0,.mapE .str (Msi b1))],1⟩) (Wk.r1 [(0,0)] (by simp [hP,hhOk,back,UA,U1,IA,I1,LA,L1,BA,B1,EA,E1,E2,eB,eI,eL])) ?_
 refine Qn ?_
 have hr:=Option.some.inj h
 rw [← hr]
 exact (.one (by simp [ownB]) (.mp rfl) .nil)
end Go.Vc.T
namespace Go.Vc.T
open Go Go.Vc Go.Proofs
noncomputable def Q1d (lists_:List (List Int)) (k_:Int):Option (List Int) :=
 (QI (σ:=List Int × Int) (ε:=List Int) (fun s7 =>
  if s7.2<(lists_.length:Int) then
   ass (0≤s7.2∧s7.2<(lists_.length:Int)) <|
   ass (0≤k_∧k_<((rx lists_ s7.2).length:Int)) <|
   ass ((s7.1++[ix (rx lists_ s7.2) k_]).length≤1073741824) <|
   ass (B64 (s7.2+1)) <|
   some (Ctl.next (s7.1++[ix (rx lists_ s7.2) k_],s7.2+1))
  else
   some (Ctl.ret s7.1)) fuel ([],0)).bind fun b1 =>
 some b1
theorem Q4m (lists_:List (List Int)) (k_:Int) (r:List Int) (h:Q1d lists_ k_=some r):Contract Tryz.prog 62 [.lst true 1 (Ls lists_),.val (.int .i64 k_)] (.lst true 1 (Is r)):=by
 refine Qk (rvs:=[.tmp 4]) (rs:=[.lst true 1 (Is r)]) Tryz.func62 rfl rfl rfl rfl (by simp [Tryz.f62]) fun F hN hP=>?_
 unfold Q1d at h
 refine Q8 ?_
 refine runQ hN fun K hK=>?_
 simp [-Q0,-Q9,-Q3,-Qa,-Q4,eL,eI,Q2]
 repeat with_reducible refine sdQ ?_
 refine hK _ ?_;clear hK K
 refine tn ?_
 refine Qd (st':=⟨[(0,.lst true 1 (Ls lists_)),(1,.val (.int .i64 k_))],[],0⟩) (Wk.r1 [] (by simp [hP,hhOk,back,UA,U1,IA,I1,LA,L1,BA,B1,EA,E1,E2,eB,eI,eL])) ?_
 refine Q8 ?_
 refine runQ hN fun K hK=>?_
 simp [-Q0,-Q9,-Q3,-Qa,-Q4,eL,eI,Q2]
 repeat with_reducible refine sdQ ?_
 refine hK _ ?_;clear hK K
 refine tn ?_
 refine Qd (st':=⟨[(0,.lst true 1 (Ls lists_)),(1,.val (.int .i64 k_)),(5,.own 0 0 0)],[(0,.mix 1 [])],1⟩) (Wk.r1 [(0,0)] (by simp [hP,hhOk,back,UA,U1,IA,I1,LA,L1,BA,B1,EA,E1,E2,eB,eI,eL])) ?_
 refine Q8 ?_
 refine Q8 ?_
 refine runQ hN fun K hK=>?_
 simp [-Q0,-Q9,-Q3,-Qa,-Q4,eL,eI,Q2]
 repeat with_reducible refine sdQ ?_
 refine hK _ ?_;clear hK K
 refine tn ?_
 refine Qd (st':=⟨[(0,.lst true 1 (Ls lists_)),(1,.val (.int .i64 k_)),(5,.own 0 0 0),(6,.val (.int .i64 0))],[(0,.mix 1 [])],1⟩) (Wk.r1 [(0,0)] (by simp [hP,hhOk,back,UA,U1,IA,I1,LA,L1,BA,B1,EA,E1,E2,eB,eI,eL])) ?_
 replace h:=bind_some h
 obtain ⟨e1,h,h1⟩:=h
 refine Qp (fun b1:List Int=>⟨[(5,.own 0 0 b1.length)],[(0,.row 1 (Is b1))],1⟩) (fun b1=>b1=e1) ?_ ?_
 ·refine Qh ?_
  refine QD h (fun s7:List Int × Int=>⟨[(0,.lst true 1 (Ls lists_)),(1,.val (.int .i64 k_)),(5,.own 0 0 s7.1.length),(6,.val (.int .i64 s7.2))],[(0,.row 1 (Is s7.1))],1⟩) (Q3J ⟨[(0,.lst true 1 (Ls lists_)),(1,.val (.int .i64 k_)),(5,.own 0 0 0),(6,.val (.int .i64 0))],[(0,.row 1 (Is []))],1⟩ (Wk.nils [] (by simp) (by simp) (by simp [nlA]) (by simp [entN,nlL,nlA,UA,U1,IA,I1,LA,L1,BA,B1,EA,E1,E2,eB,eI,eL]) (by simp)) (Wk.r1 [(0,0)] (by simp [hP,hhOk,back,UA,U1,IA,I1,LA,L1,BA,B1,EA,E1,E2,eB,eI,eL]))) ?_
  clear h
  intro k7 s7 c7 h hk7
  refine Q8 ?_
  refine Q8 ?_
  refine runQ hN fun K hK=>?_
  simp [-Q0,-Q9,-Q3,-Qa,-Q4,eL,eI,Q2]
  repeat with_reducible refine sdQ ?_
  refine hK _ ?_;clear hK K
  refine tn ?_
  refine Qd (st':=⟨[(0,.lst true 1 (Ls lists_)),(1,.val (.int .i64 k_)),(5,.own 0 0 s7.1.length),(6,.val (.int .i64 s7.2)),(11,.val (.bool (decide (s7.2<(lists_.length:Int)))))],[(0,.row 1 (Is s7.1))],1⟩) (Wk.r1 [(0,0)] (by simp [hP,hhOk,back,UA,U1,IA,I1,LA,L1,BA,B1,EA,E1,E2,eB,eI,eL])) ?_
  refine Qi rfl (fun g=>?_) fun g=>?_
  ·have g8:s7.2<(lists_.length:Int):=gQ
   clear g
   replace h:=if_l g8 h
   refine Qj ?_
   refine tn ?_
   refine Q8 ?_
   refine Qh ?_
   refine runQ hN fun K hK=>?_
   replace h:=Qc h
   obtain ⟨a9,h⟩:=h
   replace h:=Qc h
   obtain ⟨a10,h⟩:=h
   replace h:=Qc h
   obtain ⟨a11,h⟩:=h
   try simp only [List.length_append,List.length_cons,List.length_nil] at a11
   simp [-Q0,-Q9,-Q3,-Qa,-Q4,eL,eI,Q2,at_L a9,at_I a10,a11]
   repeat with_reducible refine sdQ ?_
   refine hK _ ?_;clear hK K
   refine bn ?_
   refine tn ?_
   refine Qd (st':=⟨[(0,.lst true 1 (Ls lists_)),(1,.val (.int .i64 k_)),(5,.own 0 0 ((s7.1++[ix (rx lists_ s7.2) k_]).length)),(6,.val (.int .i64 s7.2))],[(0,.row 1 (Is (s7.1++[ix (rx lists_ s7.2) k_])))],1⟩) (Wk.r1 [(2,0)] (by simp [hP,hhOk,back,UA,U1,IA,I1,LA,L1,BA,B1,EA,E1,E2,eB,eI,eL])) ?_
   refine runQ hN fun K hK=>?_
   replace h:=Qc h
   obtain ⟨a12,h⟩:=h
   simp [-Q0,-Q9,-Q3,-Qa,-Q4,eL,eI,Q2,QA a12]
   repeat with_reducible refine sdQ ?_
   refine hK _ ?_;clear hK K
   cases h
   exact rn (s':=(s7.1++[ix (rx lists_ s7.2) k_],s7.2+1)) hk7 (Wk.r1 [(0,0)] (by simp [hP,hhOk,back,UA,U1,IA,I1,LA,L1,BA,B1,EA,E1,E2,eB,eI,eL]))
  have g8:¬ (s7.2<(lists_.length:Int)):=gQ
  clear g
  replace h:=if_r g8 h
  refine Qu ?_
  refine tx ?_
  refine lx ?_
  refine bh ?_
  cases h
  exact jn (b:=s7.1) hk7 (Wk.r1 [(0,0)] (by simp [hP,hhOk,back,UA,U1,IA,I1,LA,L1,BA,B1,EA,E1,E2,eB,eI,eL]))
 intro b1 hb1
 have h:=h1
 rw [← hb1] at h
 clear h1
 try dsimp only at h
 refine Q8 ?_
 refine runQ hN fun K hK=>?_
 simp [-Q0,-Q9,-Q3,-Qa,-Q4,eL,eI,Q2]
 repeat with_reducible refine sdQ ?_
 refine hK _ ?_;clear hK K
 refine tn ?_
 refine Qd (st':=⟨[(4,.own 0 0 b1.length)],[(0,.row 1 (Is b1))],1⟩) (Wk.r1 [(0,0)] (by simp [hP,hhOk,back,UA,U1,IA,I1,LA,L1,BA,B1,EA,E1,E2,eB,eI,eL])) ?_
 refine Qn ?_
 have hr:=Option.some.inj h
 rw [← hr]
 refine ⟨_,(.tmp .nil),?_⟩
 refine ⟨(.one rfl rfl .nil),[.lst true 1 (Is b1)],[0],by simp [UA,U1,IA,I1,LA,L1,BA,B1,EA,E1,E2,eB,eI,eL],by simp,(UpL.refl _)⟩
end Go.Vc.T
namespace Go.Vc.T
open Go Go.Vc Go.Proofs
noncomputable def Q22 (lists_:List (List Int)) (list_:List Int):Option Int :=
 (QI (σ:=Int) (ε:=Unit ⊕ Int) (fun s7 =>
  if s7<(lists_.length:Int) then
   ass (0≤s7∧s7<(lists_.length:Int)) <|
   (Q39 (rx lists_ s7) list_).bind fun v10 =>
   if v10=true then
    some (Ctl.ret (Sum.inr s7))
   else
    ass (B64 (s7+1)) <|
    some (Ctl.next (s7+1))
  else
   some (Ctl.ret (Sum.inl ()))) fuel 0).bind fun e1 =>
 match e1 with
 | .inl b1 =>
  some (-1)
 | .inr p1 =>
  some p1
theorem Q5u (lists_:List (List Int)) (list_:List Int) (r:Int) (h:Q22 lists_ list_=some r):Contract Tryz.prog 45 [.lst true 1 (Ls lists_),.lst true 1 (Is list_)] (.val (.int .i64 r)):=by
 refine Qk (rvs:=[.tmp 4]) (rs:=[.val (.int .i64 r)]) Tryz.func45 rfl rfl rfl rfl (by simp [Tryz.f45]) fun F hN hP=>?_
 unfold Q22 at h
 refine Q8 ?_
 refine runQ hN fun K hK=>?_
 simp [-Q0,-Q9,-Q3,-Qa,-Q4,eL,eI,Q2]
 repeat with_reducible refine sdQ ?_
 refine hK _ ?_;clear hK K
 refine tn ?_
 refine Qd (st':=⟨[(0,.lst true 1 (Ls lists_)),(1,.lst true 1 (Is list_))],[],0⟩) (Wk.r1 [] (by simp [hP,hhOk,back,UA,U1,IA,I1,LA,L1,BA,B1,EA,E1,E2,eB,eI,eL])) ?_
 refine Q8 ?_
 refine Q8 ?_
 refine runQ hN fun K hK=>?_
 simp [-Q0,-Q9,-Q3,-Qa,-Q4,eL,eI,Q2]
 repeat with_reducible refine sdQ ?_
 refine hK _ ?_;clear hK K
 refine tn ?_
 refine Qd (st':=⟨[(0,.lst true 1 (Ls lists_)),(1,.lst true 1 (Is list_)),(5,.val (.int .i64 0))],[],0⟩) (Wk.r1 [] (by simp [hP,hhOk,back,UA,U1,IA,I1,LA,L1,BA,B1,EA,E1,E2,eB,eI,eL])) ?_
 replace h:=bind_some h
 obtain ⟨e1,h,h1⟩:=h
 refine Qp (fun b1:Unit=>⟨[],[],0⟩) (fun b1=>Sum.inl b1=e1) ?_ ?_
 ·refine Qh ?_
  refine QD h (fun s7:Int=>⟨[(0,.lst true 1 (Ls lists_)),(1,.lst true 1 (Is list_)),(5,.val (.int .i64 s7))],[],0⟩) (Wk.r1 [] (by simp [hP,hhOk,back,UA,U1,IA,I1,LA,L1,BA,B1,EA,E1,E2,eB,eI,eL])) ?_
  clear h
  intro k7 s7 c7 h hk7
  refine Q8 ?_
  refine Q8 ?_
  refine runQ hN fun K hK=>?_
  simp [-Q0,-Q9,-Q3,-Qa,-Q4,eL,eI,Q2]
  repeat with_reducible refine sdQ ?_
  refine hK _ ?_;clear hK K
  refine tn ?_
  refine Qd (st':=⟨[(0,.lst true 1 (Ls lists_)),(1,.lst true 1 (Is list_)),(5,.val (.int .i64 s7)),(9,.val (.bool (decide (s7<(lists_.length:Int)))))],[],0⟩) (Wk.r1 [] (by simp [hP,hhOk,back,UA,U1,IA,I1,LA,L1,BA,B1,EA,E1,E2,eB,eI,eL])) ?_
  refine Qi rfl (fun g=>?_) fun g=>?_
  ·have g8:s7<(lists_.length:Int):=gQ
   clear g
   replace h:=if_l g8 h
   refine Qj ?_
   refine tn ?_
   refine Q8 ?_
   refine Qh ?_
   refine Q8 ?_
   refine runQ hN fun K hK=>?_
   replace h:=Qc h
   obtain ⟨a9,h⟩:=h
   simp [-Q0,-Q9,-Q3,-Qa,-Q4,eL,eI,Q2,at_L a9]
   repeat with_reducible refine sdQ ?_
   replace h:=bind_some h
   obtain ⟨v10,hv10,h⟩:=h
   refine Q5 (Q7S _ _ v10 hv10) (.cons .lst (.cons .lst .nil)) ?_
   simp [-Q0,-Q9,-Q3,-Qa,-Q4,unk,unA,unE,unT,unC,flat,eL,eI,Q2,at_L a9]
   repeat with_reducible refine sdQ ?_
   refine hK _ ?_;clear hK K
   refine tn ?_
   refine Qd (st':=⟨[(0,.lst true 1 (Ls lists_)),(1,.lst true 1 (Is list_)),(5,.val (.int .i64 s7)),(17,.val (.bool v10))],[],0⟩) (Wk.r1 [] (by simp [hP,hhOk,back,UA,U1,IA,I1,LA,L1,BA,B1,EA,E1,E2,eB,eI,eL])) ?_
   refine Qi rfl (fun g=>?_) fun g=>?_
   ·have g11:v10=true:=gQ
    clear g
    replace h:=if_l g11 h
    refine Q8 ?_
    refine runQ hN fun K hK=>?_
    simp [-Q0,-Q9,-Q3,-Qa,-Q4,eL,eI,Q2]
    repeat with_reducible refine sdQ ?_
    refine hK _ ?_;clear hK K
    refine tn ?_
    refine Qd (st':=⟨[(4,.val (.int .i64 s7))],[],0⟩) (Wk.r1 [] (by simp [hP,hhOk,back,UA,U1,IA,I1,LA,L1,BA,B1,EA,E1,E2,eB,eI,eL])) ?_
    refine Qn ?_
    refine br ?_
    refine tr ?_
    refine lr ?_
    refine br ?_
    refine tr ?_
    cases h
    have q:_=e1:=hk7
    have h:=h1
    rw [← q] at h
    clear q
    try dsimp only at h
    have hr:=Option.some.inj h
    rw [← hr]
    refine ⟨_,(.tmp .nil),?_⟩
    refine ⟨(.one rfl rfl .nil),[.val (.int .i64 s7)],[],by simp [UA,U1,IA,I1,LA,L1,BA,B1,EA,E1,E2,eB,eI,eL],by simp,(UpL.refl _)⟩
   have g11:¬ (v10=true):=gQ
   clear g
   replace h:=if_r g11 h
   refine Qj ?_
   refine bn ?_
   refine tn ?_
   refine runQ hN fun K hK=>?_
   replace h:=Qc h
   obtain ⟨a12,h⟩:=h
   simp [-Q0,-Q9,-Q3,-Qa,-Q4,eL,eI,Q2,QA a12]
   repeat with_reducible refine sdQ ?_
   refine hK _ ?_;clear hK K
   cases h
   exact rn (s':=s7+1) hk7 (Wk.r1 [] (by simp [hP,hhOk,back,UA,U1,IA,I1,LA,L1,BA,B1,EA,E1,E2,eB,eI,eL]))
  have g8:¬ (s7<(lists_.length:Int)):=gQ
  clear g
  replace h:=if_r g8 h
  refine Qu ?_
  refine tx ?_
  refine lx ?_
  refine bh ?_
  cases h
  exact jn (b:=()) hk7 (Wk.r1 [] (by simp [hP,hhOk,back,UA,U1,IA,I1,LA,L1,BA,B1,EA,E1,E2,eB,eI,eL]))
 intro b1 hb1
 have h:=h1
 rw [← hb1] at h
 clear h1
 try dsimp only at h
 refine Q8 ?_
 refine runQ hN fun K hK=>?_
 simp [-Q0,-Q9,-Q3,-Qa,-Q4,eL,eI,Q2]
 repeat with_reducible refine sdQ ?_
 refine hK _ ?_;clear hK K
 refine tn ?_
 refine Qd (st':=⟨[(4,.val (.int .i64 (-1)))],[],0⟩) (Wk.r1 [] (by simp [hP,hhOk,back,UA,U1,IA,I1,LA,L1,BA,B1,EA,E1,E2,eB,eI,eL])) ?_
 refine Qn ?_
 have hr:=Option.some.inj h
 rw [← hr]
 refine ⟨_,(.tmp .nil),?_⟩
 refine ⟨(.one rfl rfl .nil),[.val (.int .i64 (-1))],[],by simp [UA,U1,IA,I1,LA,L1,BA,B1,EA,E1,E2,eB,eI,eL],by simp,(UpL.refl _)⟩
end Go.Vc.T
namespace Go.Vc.T
open Go Go.Vc Go.Proofs
theorem Q9b {α β:Type} [DecidableEq α] (k k':α) (v:β) (m:List (α × β)):Q3g k (tset k' v m)=if k'=k then some v else Q3g k m:=by
 induction m with
 | nil=>simp [tset,Q3g]
 | cons p r ih =>
  obtain ⟨a,x⟩:=p
  unfold tset
  by_cases h:a=k'
  ·subst h
   rw [if_pos rfl]
   by_cases h2:a=k<;>simp [Q3g,h2]
  rw [if_neg h]
  simp only [Q3g,ih]
  by_cases h2:a=k
  ·subst h2
   rw [if_pos rfl,if_pos rfl,if_neg (fun e=>h e.symm)]
  rw [if_neg h2,if_neg h2]
theorem tset_len {α β:Type} [DecidableEq α] (k:α) (v:β) (m:List (α × β)):(tset k v m).length≤m.length+1:=by
 induction m with
 | nil=>simp [tset]
 | cons p r ih =>
  obtain ⟨a,x⟩:=p
  unfold tset
  split<;>simp
  exact ih
def plM {α:Type} [DecidableEq α] (k:Nat→α):Nat→List (α × Int)
 | 0=>[]
 | n+1=>tset (k n) (n:Int) (plM k n)
theorem plM_len {α:Type} [DecidableEq α] (k:Nat→α) (n:Nat):(plM k n).length≤n:=by
 induction n with
 | zero=>simp [plM]
 | succ n ih=>exact Nat.le_trans (tset_len _ _ _) (by omega)
theorem plM_find {α:Type} [DecidableEq α] {k:Nat→α} {n:Nat} (h:∀ a b,a<n→b<n→k a=k b→a=b) {j:Nat} (hj:j<n):Q3g (k j) (plM k n)=some (j:Int):=by
 induction n with
 | zero=>omega
 | succ n ih =>
  rw [plM,Q9b]
  by_cases e:k n=k j
  ·rw [if_pos e,h n j (by omega) hj e]
  rw [if_neg e]
  have:j ≠ n:=fun q=>e (by rw [q])
  exact ih (fun a b ha hb=>h a b (by omega) (by omega)) (by omega)
theorem Q7l (ns:List Int):(Q1Q ns).data.toList=ns.map fun n=>UInt8.ofNat n.toNat:=by
 have:∀ (ns:List Int) (s:ByteArray),(ns.foldl (fun r n=>r.push (UInt8.ofNat n.toNat)) s).data.toList=s.data.toList++ns.map fun n=>UInt8.ofNat n.toNat:=by
  intro ns
  induction ns with
  | nil=>intro s;simp
  | cons n ns ih=>intro s;simp only [List.foldl_cons,ih,List.map_cons];simp [ByteArray.push]
 simpa [Q1Q] using this ns ByteArray.empty
theorem Q6O {α β:Type} {f:α→β}:∀ {a b:List α},(∀ x∈a,∀ y∈b,f x=f y→x=y)→a.map f=b.map f→a=b:=by
 intro a
 induction a with
 | nil=>intro b _ h;cases b with|nil=>rfl|cons=>simp at h
 | cons x a ih =>
  intro b hi h
  cases b with
  | nil=>simp at h
  | cons y b =>
   simp only [List.map_cons,List.cons.injEq] at h
   rw [hi x (by simp) y (by simp) h.1,ih (fun u hu v hv=>hi u (by simp [hu]) v (by simp [hv])) h.2]
theorem Q8D {a b:List Int} (ha:∀ x∈a,0≤x∧x<256) (hb:∀ x∈b,0≤x∧x<256) (h:Q1Q a=Q1Q b):a=b:=by
 have h1:=congrArg (fun s=>s.data.toList) h
 simp only [Q7l] at h1
 refine Q6O (fun x hx y hy e=>?_) h1
 have e2:=congrArg UInt8.toNat e
 have p1:=ha x hx
 have p2:=hb y hy
 simp only [UInt8.toNat_ofNat'] at e2
 omega
theorem wrap8 {n:Int} (h0:0≤n) (h1:n<256):IntKind.u8.wrap n=n:=by
 simp [IntKind.wrap,IntKind.signed,IntKind.bits]
 omega
theorem wrap8_b (n:Int):0≤IntKind.u8.wrap n∧IntKind.u8.wrap n<256:=by
 simp [IntKind.wrap,IntKind.signed,IntKind.bits]
 omega
def keyB (x:List Int):ByteArray:=Q1Q (x.map IntKind.u8.wrap++[255])
theorem keyB_inj {x y:List Int} (hx:∀ a∈x,0≤a∧a<256) (hy:∀ a∈y,0≤a∧a<256) (h:keyB x=keyB y):x=y:=by
 have hw:∀ x:List Int,∀ a∈x.map IntKind.u8.wrap++[255],0≤a∧a<256:=by
  intro x a ha
  rcases List.mem_append.1 ha with ha|ha
  ·obtain ⟨b,_,rfl⟩:=List.mem_map.1 ha
   exact wrap8_b b
  rw [List.mem_singleton.1 ha];omega
 have h1:=Q8D (hw x) (hw y) h
 have h2:=(List.append_inj' h1 rfl).1
 refine Q6O (fun a ha b hb e=>?_) h2
 rwa [wrap8 (hx a ha).1 (hx a ha).2,wrap8 (hy b hb).1 (hy b hb).2] at e
structure Keyed (L:List (List Int)):Prop where
 nd:L.Nodup
 sm:∀ x∈L,∀ a∈x,0≤a∧a<256
noncomputable def posL (L:List (List Int)) (x:List Int):Int:=fstN L.length fun i=>rx L i=x
theorem Q5B {L:List (List Int)} {i:Nat} (h:i<L.length):rx L i∈L:=by
 rw [← Q1P _ _ h];exact List.getElem_mem h
theorem Keyed.inj {L:List (List Int)} (h:Keyed L) {i j:Nat} (hi:i<L.length) (hj:j<L.length) (e:rx L i=rx L j):i=j:=by
 rw [← Q1P _ _ hi,← Q1P _ _ hj] at e
 rcases Nat.lt_trichotomy i j with q|q|q
 ·exact absurd e (List.pairwise_iff_getElem.1 h.nd i j hi hj q)
 ·exact q
 exact absurd e.symm (List.pairwise_iff_getElem.1 h.nd j i hj hi q)
theorem Keyed.at {L:List (List Int)} (h:Keyed L) {x:List Int} (hx:x∈L):∃ j:Nat,j<L.length∧rx L j=x∧posL L x=j∧Q3g (keyB x) (plM (fun i=>keyB (rx L i)) L.length)=some (j:Int):=by
 obtain ⟨j,hj,rfl⟩:=List.getElem_of_mem hx
 refine ⟨j,hj,(Q1P _ _ hj).symm,?_,?_⟩
 ·unfold posL
  rcases Q8e L.length (fun i=>rx L i=L[j]) with ⟨_,h2⟩|⟨k,hk,h2,h3⟩
  ·exact absurd (Q1P _ _ hj).symm (h2 j hj)
  rw [h3,h.inj hk hj (by rw [h2,Q1P _ _ hj])]
 have:=plM_find (k:=fun i=>keyB (rx L i)) (n:=L.length) (fun a b ha hb e=>h.inj ha hb (keyB_inj (h.sm _ (Q5B ha)) (h.sm _ (Q5B hb)) e)) hj
 rw [Q1P _ _ hj]
 exact this
theorem flt_nodup (n:Nat) (p:Nat→Prop):(flt n p).Nodup:=by
 unfold flt
 refine List.Pairwise.map (R:=fun a b=>a ≠ b) Int.ofNat (fun a b h e=>h (Int.ofNat.inj e)) ?_
 exact List.nodup_range.filter _
theorem Q5f {α β:Type} {xs:List α} {f:α→List β} (h1:∀ x∈xs,(f x).Nodup) (h2:xs.Nodup) (h3:∀ x y,x ≠ y→∀ a∈f x,∀ b∈f y,a ≠ b):(xs.flatMap f).Nodup:=by
 refine List.pairwise_flatMap.2 ⟨h1,?_⟩
 exact List.Pairwise.imp (fun {a b} hne=>h3 a b hne) h2
theorem fstN_at {n:Nat} {p:Nat→Prop} {m:Nat} (hm:m<n) (hp:p m) (hlt:∀ k,k<m→¬ p k):fstN n p=(m:Int):=by
 unfold fstN
 rw [show ((List.range n).find? fun i=>bo (p i))=some m from List.find?_eq_some_iff_getElem.2 ⟨by rw [Q7k];exact hp,m,by simpa using hm,by simp,fun j hj=>by simp [QB (hlt j hj)]⟩]
 rfl
theorem fstN_no {n:Nat} {p:Nat→Prop} (h:∀ i,i<n→¬ p i):fstN n p = -1:=by
 rcases Q8e n p with ⟨h1,_⟩|⟨k,h1,h2,_⟩
 ·exact h1
 exact absurd h2 (h k h1)
theorem fst_bind {ε β:Type} {body:Int→Option (Ctl Int ε)} {K:ε→Option β} {r:Option β} (n:Nat) (p:Nat→Prop) {eb:Nat→ε} {eg:ε} (hn:n<4611686018427387904) (h1:∀ i:Nat,i<n→¬ p i→body (i:Int)=some (.next ((i:Int)+1))) (h2:∀ i:Nat,i<n→p i→body (i:Int)=some (.ret (eb i))) (h3:body (n:Int)=some (.ret eg))
  (hb:∀ m,m<n→p m→(∀ k,k<m→¬ p k)→K (eb m)=r) (hg:(∀ i,i<n→¬ p i)→K eg=r):(QI body fuel 0).bind K=r:=by
 rcases Q8k n (fun i=>¬ p i) hn h1 (fun i hi h=>h2 i hi (Classical.byContradiction h)) h3 with ⟨h,e⟩|⟨m,hm,hq,hlt,e⟩
 ·rw [e];exact hg h
 rw [e];exact hb m hm (Classical.byContradiction hq) hlt
theorem take_rx {L:List (List Int)} {i:Nat} (h:i<L.length):L.take (i+1)=L.take i++[rx L i]:=by rw [List.take_succ_eq_append_getElem h,Q1P _ _ h]
theorem e_key {x:List Int} (h:x.length≤1000):Q4u [x]=some (keyB x):=by
 unfold Q4u keyB
 refine QN 1 (fun i=>if i=0 then [] else x.map IntKind.u8.wrap++[255]) (e:=x.map IntKind.u8.wrap++[255]) (by simp) (by omega) (fun i hi=>?_) (by simp) rfl
 have:i=0:=by omega
 subst this
 have hx:rx [x] ((0:Nat):Int)=x:=by simp [rx]
 simp only [hx]
 rw [if_pos (by simp),Qg (by simp)]
 refine QN x.length (fun k=>(x.take k).map IntKind.u8.wrap) (e:=x.map IntKind.u8.wrap) (by simp) (by omega) (fun k hk=>?_) (by simp) ?_
 ·have hs:x.take (k+1)=x.take k++[ix x k]:=by rw [List.take_succ_eq_append_getElem hk,Q1w _ _ hk]
  simp (disch:=omega) [Qg,B64,hs];try omega
 simp (disch:=omega) [Qg,B64];try omega
noncomputable def plL (L:List (List Int)):List (ByteArray × Int):=plM (fun i=>keyB (rx L i)) L.length
theorem e_places {L:List (List Int)} (hn:L.length<1000000) (hx:∀ x∈L,x.length≤1000):Q2t L=some (plL L):=by
 unfold Q2t plL
 refine QN L.length (fun i=>plM (fun i=>keyB (rx L i)) i) (e:=plM (fun i=>keyB (rx L i)) L.length) rfl (by omega) (fun i hi=>?_) (by simp) rfl
 have h1:=plM_len (fun i:Nat=>keyB (rx L i)) i
 simp only
 rw [if_pos (by omega),Qg (by omega),e_key (hx _ (Q5B hi))]
 simp only [Option.bind_some]
 rw [Qg (by omega),Qg (by unfold B64;omega)]
 rfl
theorem Q89 {L:List (List Int)} {k:Int} (hn:L.length<1000000) (h0:0≤k) (hx:∀ x∈L,k<x.length):Q1M L k=some (L.map (ix · k))∧Q1d L k=some (L.map (ix · k)):=by
 unfold Q1M Q1d
 constructor <;>
 ·refine QN L.length (fun i=>(L.take i).map (ix · k)) (e:=L.map (ix · k)) (by simp) (by omega) (fun i hi=>?_) (by simp) rfl
  have h1:=hx _ (Q5B hi)
  have h2:=take_rx hi
  simp (disch:=omega) [Qg,B64,h2];try omega
end Go.Vc.T
namespace Go.Vc.T
open Go Go.Vc Go.Proofs
theorem homL_in {c:Cat} {f x y:Int} (h:Ar c f x y):f∈homL c x y:=by
 unfold homL
 rw [mem_flt]
 refine ⟨f.toNat,by omega,?_,by omega⟩
 rw [Int.toNat_of_nonneg h.1.1]
 exact h.2
noncomputable def bC (n:Int) (L:List (List Int)) (idv:Nat→Int) (cmp:List Int→List Int→Int):Cat :=
 ⟨n,L.map (ix · 0),L.map (ix · 1),tab n.toNat fun x=>posL L [(x:Int),(x:Int),idv x],
  tab L.length fun i=>tab L.length fun j=>if ix (rx L i) 1=ix (rx L j) 0 then posL L [ix (rx L i) 0,ix (rx L j) 1,cmp (rx L i) (rx L j)] else -1⟩
theorem bC_ok {n:Int} {L:List (List Int)} {idv:Nat→Int} {cmp:List Int→List Int→Int} (hn:n≤8) (hl:L.length≤40):(bC n L idv cmp).ok∧(bC n L idv cmp).size≤2000:=by
 have hr:∀ xs∈(bC n L idv cmp).cs,xs.length≤40:=by
  intro xs hx
  obtain ⟨i,hi,rfl⟩:=List.mem_map.1 hx
  simpa using hl
 have h7:=sumL_b hr
 have h8:(bC n L idv cmp).cs.length=L.length:=by simp [bC]
 have h9:(bC n L idv cmp).cs.length * 40≤40 * 40:=Nat.mul_le_mul_right _ (by omega)
 have e1:(bC n L idv cmp).fr.length=L.length:=by simp [bC]
 have e2:(bC n L idv cmp).to.length=L.length:=by simp [bC]
 have e3:(bC n L idv cmp).id.length=n.toNat:=by simp [bC]
 refine ⟨⟨by omega,by omega,by omega,by omega,fun xs hx=>by have:=hr xs hx;omega,by omega⟩,?_⟩
 simp only [Cat.size]
 omega
end Go.Vc.T
namespace Go.Vc.T
open Go Go.Vc Go.Proofs
def mixr {α:Type} (m g:Nat) (v:Nat→α) (z:α):List α:=tab m fun j=>if j<g then v j else z
@[simp] theorem mixr_length {α:Type} (m g:Nat) (v:Nat→α) (z:α):(mixr m g v z).length=m:=by simp [mixr]
theorem Q6a {α:Type} {m g:Nat} {v:Nat→α} {z:α}:(mixr m g v z).set g (v g)=mixr m (g+1) v z:=by
 refine List.ext_getElem (by simp) fun j h1 h2=>?_
 simp only [mixr,tab,List.getElem_set,List.getElem_map,List.getElem_range]
 by_cases h:g=j
 ·subst h;simp
 have:(j<g)=(j<g+1):=propext ⟨fun _=>by omega,fun _=>by omega⟩
 simp [h,this]
theorem Q6S {α:Type} (m:Nat) (v:Nat→α) (z:α):mixr m 0 v z=List.replicate m z:=by
 refine List.ext_getElem (by simp) fun j h1 h2=>?_
 simp [mixr,tab]
theorem Q8q {α:Type} (m:Nat) (v:Nat→α) (z:α):mixr m m v z=tab m v:=by
 refine List.ext_getElem (by simp) fun j h1 h2=>?_
 have:j<m:=by simpa using h1
 simp [mixr,tab,this]
theorem rx_set {xs:List (List Int)} {i:Nat} (h:i<xs.length) (r:List Int):rx (xs.set i r) (i:Int)=r:=by
 simp [rx,List.getD_eq_getElem?_getD,h]
end Go.Vc.T
namespace Go.Vc.T
open Go Go.Vc Go.Proofs
noncomputable def Q20 (c_:Cat):Option Bool :=
 (
  if c_.n≤8 then
   some (decide ((c_.fr.length:Int)≤40))
  else
   some false:Option (Bool)).bind fun b1 =>
 some b1
theorem Q5s (c_:Cat) (r:Bool) (h:Q20 c_=some r):Contract Tryz.prog 79 [.agg (c_.cells true)] (.val (.bool r)):=by
 refine Qk (rvs:=[.tmp 2]) (rs:=[.val (.bool r)]) Tryz.func79 rfl rfl rfl rfl (by simp [Tryz.f79]) fun F hN hP=>?_
 unfold Q20 at h
 refine Q8 ?_
 refine runQ hN fun K hK=>?_
 simp [-Q0,-Q9,-Q3,-Qa,-Q4,eL,eI,Q2,Q7,Cat.cells]
 repeat with_reducible refine sdQ ?_
 refine hK _ ?_;clear hK K
 refine tn ?_
 refine Qd (st':=⟨[(1,.adr 0 0 0)],[(0,.mix 5 [(Cat.cells true c_)])],1⟩) (Wk.r1 [(0,0)] (by simp [hP,hhOk,back,Cat.cells,UA,U1,IA,I1,LA,L1,BA,B1,EA,E1,E2,eB,eI,eL])) ?_
 refine Q8 ?_
 replace h:=bind_some h
 obtain ⟨e1,h,h1⟩:=h
 refine Qp (fun b1:Bool=>⟨[(2,.val (.bool b1))],[],0⟩) (fun b1=>b1=e1) ?_ ?_
 ·refine runQ hN fun K hK=>?_
  simp [-Q0,-Q9,-Q3,-Qa,-Q4,eL,eI,Q2,Q7,Cat.cells]
  repeat with_reducible refine sdQ ?_
  refine Qr (fun g=>?_) (fun g=>?_)
  ·have g2:c_.n≤8:=gQ
   clear g
   replace h:=if_l g2 h
   simp [-Q0,-Q9,-Q3,-Qa,-Q4,eL,eI,Q2,Q7,Cat.cells]
   repeat with_reducible refine sdQ ?_
   refine hK _ ?_
   exact jn (b:=decide ((c_.fr.length:Int)≤40)) (Option.some.inj h) (Wk.r1 [] (by simp [hP,hhOk,back,Cat.cells,UA,U1,IA,I1,LA,L1,BA,B1,EA,E1,E2,eB,eI,eL]))
  have g2:¬ (c_.n≤8):=gQ
  clear g
  replace h:=if_r g2 h
  simp [-Q0,-Q9,-Q3,-Qa,-Q4,eL,eI,Q2,Q7,Cat.cells]
  repeat with_reducible refine sdQ ?_
  refine hK _ ?_
  exact jn (b:=false) (Option.some.inj h) (Wk.r1 [] (by simp [hP,hhOk,back,Cat.cells,UA,U1,IA,I1,LA,L1,BA,B1,EA,E1,E2,eB,eI,eL]))
 intro b1 hb1
 have h:=h1
 rw [← hb1] at h
 clear h1
 try dsimp only at h
 refine Qn ?_
 have hr:=Option.some.inj h
 rw [← hr]
 refine ⟨_,(.tmp .nil),?_⟩
 refine ⟨(.one rfl rfl .nil),[.val (.bool b1)],[],by simp [Cat.cells,UA,U1,IA,I1,LA,L1,BA,B1,EA,E1,E2,eB,eI,eL],by simp,(UpL.refl _)⟩
end Go.Vc.T
namespace Go.Vc.T
open Go Go.Vc Go.Proofs
theorem Q64 (c:Cat):Q20 c=some (bo (c.n≤8∧(c.fr.length:Int)≤40)):=by
 unfold Q20
 by_cases h1:c.n≤8<;>by_cases h2:(c.fr.length:Int)≤40<;>simp [h1,h2,bo]
theorem bC_find {L:List (List Int)} (h:Keyed L) {x:List Int} (hx:x∈L):(Q3g (keyB x) (plL L)).getD 0=posL L x:=by
 obtain ⟨j,_,_,h3,h4⟩:=h.at hx
 unfold plL
 rw [h3,h4]
 rfl
def zeroC:Cat:=⟨0,[],[],[],[]⟩
theorem zeroC_ok:zeroC.ok∧zeroC.size≤2000:=by simp [zeroC,Cat.ok,Cat.size,sumL]
end Go.Vc.T
namespace Go.Vc.T
open Go Go.Vc Go.Proofs
theorem Cat.Is.Ai {c:Cat} (h:c.Is) {x:Int} (hx:0≤x∧x<c.n):Ar c (ix c.id x) x x:=by
 have h1:=h.1.li
 obtain ⟨i,rfl⟩:=Int.eq_ofNat_of_zero_le hx.1
 have h2:=h.1.ids i (by omega)
 exact ⟨h.1.id' (by omega) (by omega),h2.1,h2.2⟩
theorem Q8A {ε β:Type} {body:List Int × Int→Option (Ctl (List Int × Int) ε)} {K:ε→Option β} {r:Option β} (n:Nat) (v:Nat→Int) {e:ε} (hn:n<1000000)
  (h:∀ i:Nat,i<n→body (tab i v,(i:Int))=(ass ((tab i v++[v i]).length≤1073741824) <| ass (B64 ((i:Int)+1)) <| some (.next (tab i v++[v i],(i:Int)+1))))
  (he:body (tab n v,(n:Int))=some (.ret e)) (hk:K e=r):(QI body fuel ([],0)).bind K=r:=by
 refine QN n (fun i=>tab i v) (e:=e) rfl (by omega) (fun i hi=>?_) he hk
 rw [h i hi,Qg (by simp;omega),Qg (by unfold B64;omega),Q6l]
end Go.Vc.T
namespace Go.Vc.T
open Go Go.Vc Go.Proofs
theorem Cat.Is.assoc {c:Cat} (hc:c.Is) {f g h w x y z:Int} (a:Ar c f w x) (b:Ar c g x y) (d:Ar c h y z):ix (rx c.cs (ix (rx c.cs f) g)) h=ix (rx c.cs f) (ix (rx c.cs g) h):=by
 obtain ⟨i,rfl⟩:=Int.eq_ofNat_of_zero_le a.1.1
 obtain ⟨j,rfl⟩:=Int.eq_ofNat_of_zero_le b.1.1
 obtain ⟨k,rfl⟩:=Int.eq_ofNat_of_zero_le d.1.1
 have:=hc.2.2 i (by have:=a.1;omega) j (by have:=b.1;omega) k (by have:=d.1;omega)
 exact this (by rw [a.2.2,b.2.1]) (by rw [b.2.2,d.2.1])
theorem Cat.Is.idl {c:Cat} (hc:c.Is) {f x y:Int} (a:Ar c f x y):ix (rx c.cs (ix c.id x)) f=f∧ix (rx c.cs f) (ix c.id y)=f:=by
 obtain ⟨i,rfl⟩:=Int.eq_ofNat_of_zero_le a.1.1
 have:=hc.2.1 i (by have:=a.1;omega)
 unfold Cat.un at this
 rw [a.2.1,a.2.2] at this
 exact this
theorem Fn.Is.two {f:Fn} (h:f.Is) {a b x y z:Int} (ha:Ar f.s a x y) (hb:Ar f.s b y z):ix f.ar (ix (rx f.s.cs a) b)=ix (rx f.t.cs (ix f.ar a)) (ix f.ar b):=by
 obtain ⟨i,rfl⟩:=Int.eq_ofNat_of_zero_le ha.1.1
 obtain ⟨j,rfl⟩:=Int.eq_ofNat_of_zero_le hb.1.1
 exact h.comp i (by have:=ha.1;omega) j (by have:=hb.1;omega) (by rw [ha.2.2,hb.2.1])
theorem Fn.Is.one {f:Fn} (h:f.Is) {x:Int} (hx:0≤x∧x<f.s.n):ix f.ar (ix f.s.id x)=ix f.t.id (ix f.ob x):=by
 obtain ⟨i,rfl⟩:=Int.eq_ofNat_of_zero_le hx.1
 exact h.ids i (by have:=h.s.1.li;omega)
noncomputable def av (m:Mnd):List XAlgebra:=Q27 m (fun x h=>(⟨x,h⟩:XAlgebra)) m.f.s.n.toNat
noncomputable def avL (m:Mnd):List (List Int):=Q27 m (fun x h=>[x,h]) m.f.s.n.toNat
theorem avL_eq (m:Mnd):avL m=(av m).map fun a=>[a.x_,a.h_]:=by
 simp [av,avL,Q27,List.map_flatMap,Function.comp_def]
theorem Q83 {m:Mnd} (hm:m.Is):(av m).length≤320:=by
 obtain ⟨l1,l2,l3,l4,l5,l6,l7,l8,l9⟩:=hm.pre.len
 have:=Q4o m (fun x h=>(⟨x,h⟩:XAlgebra)) (by omega) m.f.s.n.toNat
 unfold av
 omega
structure AlgAt (m:Mnd) (a:XAlgebra):Prop where
 alg:Alg m a.x_ a.h_
 x:0≤a.x_∧a.x_<(m.f.ob.length:Int)
 h:Ar m.f.s a.h_ (ix m.f.ob a.x_) a.x_
theorem av_at {m:Mnd} (hm:m.Is):∀ a∈av m,AlgAt m a:=by
 obtain ⟨l1,l2,l3,l4,l5,l6,l7,l8,l9⟩:=hm.pre.len
 intro a ha
 simp only [av,Q27,List.mem_flatMap,List.mem_range,List.mem_map,algL,List.mem_filter,Q7k] at ha
 obtain ⟨x,hx,h,⟨h1,h2⟩,rfl⟩:=ha
 exact ⟨h2,by simp only;omega,Q3C h h1⟩
theorem gx_mem {α:Type} [Inhabited α] {xs:List α} {i:Nat} (h:i<xs.length):gx xs (i:Int)∈xs:=by
 have:gx xs (i:Int)=xs[i]:=by simp [gx,List.getD_eq_getElem?_getD,h]
 rw [this];exact List.getElem_mem h
theorem avL_at {m:Mnd} {i:Nat} (h:i<(av m).length):rx (avL m) i=[(gx (av m) i).x_,(gx (av m) i).h_]:=by
 rw [avL_eq]
 simp [rx,gx,List.getD_eq_getElem?_getD,h]
noncomputable def amp (m:Mnd) (s t:Int):List Int:=Q2P m (gx (av m) s).x_ (gx (av m) s).h_ (gx (av m) t).x_ (gx (av m) t).h_
noncomputable def alF (m:Mnd) (s t:Nat):List (List Int):=(amp m s t).map fun f=>[(s:Int),(t:Int),f]
noncomputable def alX (m:Mnd) (s k:Nat):List (List Int):=(List.range k).flatMap (alF m s)
noncomputable def alN (m:Mnd) (k:Nat):List (List Int):=(List.range k).flatMap fun s=>alX m s (av m).length
noncomputable def alL (m:Mnd):List (List Int):=alN m (av m).length
theorem Q5X (m:Mnd) (s k:Nat):alX m s (k+1)=alX m s k++alF m s k:=by simp [alX,List.range_succ]
theorem Q5W (m:Mnd) (k:Nat):alN m (k+1)=alN m k++alX m k (av m).length:=by simp [alN,List.range_succ]
theorem alF_len (m:Mnd) (h:m.f.s.fr.length≤40) (s t:Nat):(alF m s t).length≤40:=by
 have:=Q3P m (gx (av m) s).x_ (gx (av m) s).h_ (gx (av m) t).x_ (gx (av m) t).h_
 simp only [alF,amp,List.length_map]
 omega
theorem Q7i (m:Mnd) (h:m.f.s.fr.length≤40) (s k:Nat):(alX m s k).length≤k * 40:=by
 induction k with
 | zero=>simp [alX]
 | succ k ih =>
  have:=alF_len m h s k
  rw [Q5X,List.length_append]
  omega
theorem Q7h {m:Mnd} (hm:m.Is) (k:Nat):(alN m k).length≤k * 12800:=by
 obtain ⟨l1,l2,l3,l4,l5,l6,l7,l8,l9⟩:=hm.pre.len
 have ha:=Q83 hm
 induction k with
 | zero=>simp [alN]
 | succ k ih =>
  have:=Q7i m (by omega) k (av m).length
  rw [Q5W,List.length_append]
  omega
theorem mem_al {m:Mnd} {a:List Int}:a∈alL m↔∃ s t f:Int,(0≤s∧s<((av m).length:Int))∧(0≤t∧t<((av m).length:Int))∧f∈amp m s t∧a=[s,t,f]:=by
 simp only [alL,alN,alX,alF,List.mem_flatMap,List.mem_map,List.mem_range]
 constructor
 ·rintro ⟨s,hs,t,ht,f,hf,rfl⟩
  exact ⟨s,t,f,by omega,by omega,hf,rfl⟩
 rintro ⟨s,t,f,hs,ht,hf,rfl⟩
 refine ⟨s.toNat,by omega,t.toNat,by omega,f,?_,?_⟩
 ·rw [Int.toNat_of_nonneg hs.1,Int.toNat_of_nonneg ht.1];exact hf
 rw [Int.toNat_of_nonneg hs.1,Int.toNat_of_nonneg ht.1]
theorem Q3S {m:Mnd} {s t f:Int} (h:f∈amp m s t):Ar m.f.s f (gx (av m) s).x_ (gx (av m) t).x_∧ix (rx m.f.s.cs (gx (av m) s).h_) f=ix (rx m.f.s.cs (ix m.f.ar f)) (gx (av m) t).h_:=by
 simp only [amp,Q2P,List.mem_filter,Q7k] at h
 exact ⟨Q3C f h.1,h.2⟩
theorem mem_amp {m:Mnd} {s t f:Int} (h:Ar m.f.s f (gx (av m) s).x_ (gx (av m) t).x_) (e:ix (rx m.f.s.cs (gx (av m) s).h_) f=ix (rx m.f.s.cs (ix m.f.ar f)) (gx (av m) t).h_):f∈amp m s t:=by
 simp only [amp,Q2P,List.mem_filter,Q7k]
 exact ⟨homL_in h,e⟩
theorem gxm {m:Mnd} (hm:m.Is) {s:Int} (hs:0≤s∧s<((av m).length:Int)):AlgAt m (gx (av m) s):=by
 obtain ⟨i,rfl⟩:=Int.eq_ofNat_of_zero_le hs.1
 exact av_at hm _ (gx_mem (by omega))
theorem al_two {m:Mnd} (hm:m.Is) {s t u f g:Int} (hs:0≤s∧s<((av m).length:Int)) (ht:0≤t∧t<((av m).length:Int)) (hu:0≤u∧u<((av m).length:Int)) (hf:f∈amp m s t) (hg:g∈amp m t u):ix (rx m.f.s.cs f) g∈amp m s u:=by
 have hc:=hm.pre.f.s
 have hF:=hm.pre.f
 obtain ⟨a1,e1⟩:=Q3S hf
 obtain ⟨a2,e2⟩:=Q3S hg
 have sa:=gxm hm hs
 have ta:=gxm hm ht
 have ua:=gxm hm hu
 have T1:=hm.pre.Aa rfl a1
 have T2:=hm.pre.Aa rfl a2
 refine mem_amp (a1.two hc a2) ?_
 rw [← hc.assoc sa.h a1 a2,e1,hc.assoc T1 ta.h a2,e2,← hc.assoc T1 T2 ua.h,hF.two a1 a2,← hm.pre.e]
theorem al_one {m:Mnd} (hm:m.Is) {s:Int} (hs:0≤s∧s<((av m).length:Int)):ix m.f.s.id (gx (av m) s).x_∈amp m s s:=by
 obtain ⟨l1,l2,l3,l4,l5,l6,l7,l8,l9⟩:=hm.pre.len
 have hc:=hm.pre.f.s
 have sa:=gxm hm hs
 have hx:=sa.x
 refine mem_amp (hc.Ai (by omega)) ?_
 rw [(hc.idl sa.h).2,hm.pre.f.one (by omega),← hm.pre.e,(hc.idl sa.h).1]
theorem Q80 {m:Mnd} (hm:m.Is) (h8:(av m).length≤8):Keyed (alL m):=by
 obtain ⟨l1,l2,l3,l4,l5,l6,l7,l8,l9⟩:=hm.pre.len
 refine ⟨?_,fun a ha b hb=>?_⟩
 ·refine Q5f (fun s _=>Q5f (fun t _=>?_) List.nodup_range fun t u hne a ha b hb=>?_) List.nodup_range fun s u hne a ha b hb=>?_
  ·exact List.Pairwise.map (R:=fun a b=>a ≠ b) _ (fun f g hne e=>hne (by simpa using e)) ((flt_nodup _ _).filter _)
  ·obtain ⟨f,_,rfl⟩:=List.mem_map.1 ha
   obtain ⟨g,_,rfl⟩:=List.mem_map.1 hb
   intro e
   simp only [List.cons.injEq] at e
   omega
  simp only [alX,alF,List.mem_flatMap,List.mem_map,List.mem_range] at ha hb
  obtain ⟨_,_,f,_,rfl⟩:=ha
  obtain ⟨_,_,g,_,rfl⟩:=hb
  intro e
  simp only [List.cons.injEq] at e
  omega
 obtain ⟨s,t,f,hs,ht,hf,rfl⟩:=mem_al.1 ha
 have:=(Q3S hf).1.1
 simp only [List.mem_cons,List.not_mem_nil,or_false] at hb
 rcases hb with rfl|rfl|rfl<;>omega
theorem al3 {m:Mnd}:∀ x∈alL m,x.length=3:=by
 intro x hx
 obtain ⟨_,_,_,_,_,_,rfl⟩:=mem_al.1 hx
 rfl
theorem Q81 {m:Mnd} {i:Nat} (hi:i<(alL m).length):∃ s t f:Int,(0≤s∧s<((av m).length:Int))∧(0≤t∧t<((av m).length:Int))∧f∈amp m s t∧rx (alL m) i=[s,t,f]:=mem_al.1 (Q5B hi)
noncomputable def aC (m:Mnd):Cat:=bC ((av m).length:Int) (alL m) (fun s=>ix m.f.s.id (gx (av m) s).x_) fun a b=>ix (rx m.f.s.cs (ix a 2)) (ix b 2)
theorem e_amp {m:Mnd} (hm:m.Is) {s t:Int} (hs:0≤s∧s<((av m).length:Int)) (ht:0≤t∧t<((av m).length:Int)):Q24 m (rx (avL m) s) (rx (avL m) t)=some (amp m s t)∧QK m (gx (av m) s) (gx (av m) t)=some (amp m s t):=by
 have sa:=gxm hm hs
 have ta:=gxm hm ht
 obtain ⟨i,rfl⟩:=Int.eq_ofNat_of_zero_le hs.1
 obtain ⟨j,rfl⟩:=Int.eq_ofNat_of_zero_le ht.1
 have:=e_maps hm sa.alg sa.x sa.h.1 ta.alg ta.x ta.h.1
 rw [avL_at (by omega),avL_at (by omega)]
 exact this
end Go.Vc.T
namespace Go.Vc.T
open Go Go.Vc Go.Proofs
noncomputable def Q2c (m_:Mnd):Option (Cat × List (List Int) × List (List Int)) :=
 (Q2v m_).bind fun v1 =>
 (QI (σ:=List (List Int) × Int) (ε:=List (List Int)) (fun s37 =>
  if s37.2<(v1.length:Int) then
   (
    (QI (σ:=List (List Int) × Int) (ε:=List (List Int)) (fun s55 =>
     if s55.2<(v1.length:Int) then
      (
       ass (0≤s37.2∧s37.2<(v1.length:Int)) <|
       ass (0≤s55.2∧s55.2<(v1.length:Int)) <|
       (Q24 m_ (rx v1 s37.2) (rx v1 s55.2)).bind fun v60 =>
       (QI (σ:=List (List Int) × Int) (ε:=List (List Int)) (fun s65 =>
        if s65.2<(v60.length:Int) then
         ass (0≤s65.2∧s65.2<(v60.length:Int)) <|
         ass ((s65.1++[[s37.2,s55.2,ix v60 s65.2]]).length≤1073741824) <|
         ass (B64 (s65.2+1)) <|
         some (Ctl.next (s65.1++[[s37.2,s55.2,ix v60 s65.2]],s65.2+1))
        else
         some (Ctl.ret s65.1)) fuel (s55.1,0)).bind fun p65 =>
       some p65:Option (List (List Int))).bind fun b57 =>
      ass (B64 (s55.2+1)) <|
      some (Ctl.next (b57,s55.2+1))
     else
      some (Ctl.ret s55.1)) fuel (s37.1,0)).bind fun p55 =>
    some p55:Option (List (List Int))).bind fun b39 =>
   ass (B64 (s37.2+1)) <|
   some (Ctl.next (b39,s37.2+1))
  else
   some (Ctl.ret s37.1)) fuel ([],0)).bind fun b2 =>
 (Q1d b2 0).bind fun v72 =>
 (Q1d b2 1).bind fun v73 =>
 (QI (σ:=List Int × Int) (ε:=List Int) (fun s82 =>
  if s82.2<(v1.length:Int) then
   ass (0≤s82.2∧s82.2<(v1.length:Int)) <|
   ass ((0:Int)≤0∧0<((rx v1 s82.2).length:Int)) <|
   ass (0≤ix (rx v1 s82.2) 0∧ix (rx v1 s82.2) 0<(m_.f.s.id.length:Int)) <|
   (Q22 b2 [s82.2,s82.2,ix m_.f.s.id (ix (rx v1 s82.2) 0)]).bind fun v87 =>
   ass ((s82.1++[v87]).length≤1073741824) <|
   ass (B64 (s82.2+1)) <|
   some (Ctl.next (s82.1++[v87],s82.2+1))
  else
   some (Ctl.ret s82.1)) fuel ([],0)).bind fun b74 =>
 (QI (σ:=List (List Int) × Int) (ε:=List (List Int)) (fun s137 =>
  (
   if s137.2<(b2.length:Int) then
    (Q20 (⟨(v1.length:Int),v72,v73,b74,s137.1⟩:Cat)).bind fun v140 =>
    some v140
   else
    some false:Option (Bool)).bind fun b138 =>
  if b138=true then
   (QI (σ:=List Int × Int) (ε:=List Int) (fun s162 =>
    if s162.2<(b2.length:Int) then
     ass (0≤s137.2∧s137.2<(b2.length:Int)) <|
     ass ((0:Int)≤1∧1<((rx b2 s137.2).length:Int)) <|
     ass (0≤s162.2∧s162.2<(b2.length:Int)) <|
     ass ((0:Int)≤0∧0<((rx b2 s162.2).length:Int)) <|
     (
      if (ix (rx b2 s137.2) 1)=(ix (rx b2 s162.2) 0) then
       ass (0≤s137.2∧s137.2<(b2.length:Int)) <|
       ass ((0:Int)≤0∧0<((rx b2 s137.2).length:Int)) <|
       ass (0≤s162.2∧s162.2<(b2.length:Int)) <|
       ass ((0:Int)≤1∧1<((rx b2 s162.2).length:Int)) <|
       ass (0≤s137.2∧s137.2<(b2.length:Int)) <|
       ass ((0:Int)≤2∧2<((rx b2 s137.2).length:Int)) <|
       ass (0≤s162.2∧s162.2<(b2.length:Int)) <|
       ass ((0:Int)≤2∧2<((rx b2 s162.2).length:Int)) <|
       (QF m_.f.s (ix (rx b2 s137.2) 2) (ix (rx b2 s162.2) 2)).bind fun v178 =>
       (Q22 b2 [ix (rx b2 s137.2) 0,ix (rx b2 s162.2) 1,v178]).bind fun v179 =>
       some v179
      else
       some (-1):Option (Int)).bind fun b168 =>
     ass ((s162.1++[b168]).length≤1073741824) <|
     ass (B64 (s162.2+1)) <|
     some (Ctl.next (s162.1++[b168],s162.2+1))
    else
     some (Ctl.ret s162.1)) fuel ([],0)).bind fun b142 =>
   ass ((s137.1++[b142]).length≤1073741824) <|
   ass (B64 (s137.2+1)) <|
   some (Ctl.next (s137.1++[b142],s137.2+1))
  else
   some (Ctl.ret s137.1)) fuel ([],0)).bind fun b90 =>
 some ((⟨(v1.length:Int),v72,v73,b74,b90⟩:Cat),v1,b2)
theorem Q7e (m_:Mnd) (r:Cat × List (List Int) × List (List Int)) (h:Q2c m_=some r):Contract Tryz.prog 88 [.agg (m_.cells true)] (.tup [.agg (r.1.cells true),.lst true 1 (Ls r.2.1),.lst true 1 (Ls r.2.2)]):=by
 refine Qk (rvs:=[.cell 2 31,.tmp 3,.tmp 4]) (rs:=[.agg (r.1.cells true),.lst true 1 (Ls r.2.1),.lst true 1 (Ls r.2.2)]) Tryz.func88 rfl rfl rfl rfl (by simp [Tryz.f88]) fun F hN hP=>?_
 unfold Q2c at h
 refine Q8 ?_
 refine runQ hN fun K hK=>?_
 simp [-Q0,-Q9,-Q3,-Qa,-Q4,eL,eI,Q2,Q7,Qf,Cat.cells,Mnd.cells]
 repeat with_reducible refine sdQ ?_
 refine hK _ ?_;clear hK K
 refine tn ?_
 refine Qd (st':=⟨[(1,.adr 0 0 0),(2,.adr 1 0 0)],[(0,.mix 14 [(Mnd.cells true m_)]),(1,.mix 5 [[.val (.int .i64 0),.val (.slice none 0 0),.val (.slice none 0 0),.val (.slice none 0 0),.val (.slice none 0 0)]])],2⟩) (Wk.r1 [(0,0),(1,1)] (by simp [hP,hhOk,back,Cat.cells,Mnd.cells,UA,U1,IA,I1,LA,L1,BA,B1,EA,E1,E2,eB,eI,eL])) ?_
 refine Q8 ?_
 refine runQ hN fun K hK=>?_
 simp [-Q0,-Q9,-Q3,-Qa,-Q4,eL,eI,Q2,Q7,Qf,Cat.cells,Mnd.cells]
 repeat with_reducible refine sdQ ?_
 refine hK _ ?_;clear hK K
 refine tn ?_
 refine Qd (st':=⟨[(1,.adr 0 0 0),(2,.adr 1 0 0),(5,.adr 2 0 0)],[(0,.mix 14 [(Mnd.cells true m_)]),(1,.mix 5 [[.val (.int .i64 0),.val (.slice none 0 0),.val (.slice none 0 0),.val (.slice none 0 0),.val (.slice none 0 0)]]),(2,.mix 5 [(Cat.cells true m_.f.s)])],3⟩) (Wk.r1 [(0,0),(1,1),(2,2)] (by simp [hP,hhOk,back,Cat.cells,Mnd.cells,UA,U1,IA,I1,LA,L1,BA,B1,EA,E1,E2,eB,eI,eL])) ?_
 refine Q8 ?_
 refine runQ hN fun K hK=>?_
 simp [-Q0,-Q9,-Q3,-Qa,-Q4,eL,eI,Q2,Q7,Qf,Cat.cells,Mnd.cells]
 repeat with_reducible refine sdQ ?_
 replace h:=bind_some h
 obtain ⟨v1,hv1,h⟩:=h
 refine Q5 (Q9d _ v1 hv1) (.cons (.aggL (.cons .val (.cons .lst (.cons .lst (.cons .lst (.cons .lst (.cons .val (.cons .lst (.cons .lst (.cons .lst (.cons .lst (.cons .lst (.cons .lst (.cons .lst (.cons .lst .nil))))))))))))))) .nil) ?_
 simp [-Q0,-Q9,-Q3,-Qa,-Q4,unk,unA,unE,unT,unC,flat,eL,eI,Q2,Q7,Qf,Cat.cells,Mnd.cells]
 repeat with_reducible refine sdQ ?_
 refine hK _ ?_;clear hK K
 refine tn ?_
 refine Qd (st':=⟨[(1,.adr 0 0 0),(2,.adr 1 0 0),(5,.adr 2 0 0),(6,.own 3 0 v1.length)],[(0,.mix 14 [(Mnd.cells true m_)]),(1,.mix 5 [[.val (.int .i64 0),.val (.slice none 0 0),.val (.slice none 0 0),.val (.slice none 0 0),.val (.slice none 0 0)]]),(2,.mix 5 [(Cat.cells true m_.f.s)]),(3,.row 1 (Ls v1))],4⟩) (Wk.r1 [(0,0),(1,1),(2,2),(3,3)] (by simp [hP,hhOk,back,Cat.cells,Mnd.cells,UA,U1,IA,I1,LA,L1,BA,B1,EA,E1,E2,eB,eI,eL])) ?_
 refine Q8 ?_
 refine runQ hN fun K hK=>?_
 simp [-Q0,-Q9,-Q3,-Qa,-Q4,eL,eI,Q2,Q7,Qf,Cat.cells,Mnd.cells]
 repeat with_reducible refine sdQ ?_
 refine hK _ ?_;clear hK K
 refine tn ?_
 refine Qd (st':=⟨[(1,.adr 0 0 0),(2,.adr 1 0 0),(5,.adr 2 0 0),(6,.own 3 0 v1.length),(7,.own 4 0 0)],[(0,.mix 14 [(Mnd.cells true m_)]),(1,.mix 5 [[.val (.int .i64 0),.val (.slice none 0 0),.val (.slice none 0 0),.val (.slice none 0 0),.val (.slice none 0 0)]]),(2,.mix 5 [(Cat.cells true m_.f.s)]),(3,.row 1 (Ls v1)),(4,.mix 1 [])],5⟩) (Wk.r1 [(0,0),(1,1),(2,2),(3,3),(4,4)] (by simp [hP,hhOk,back,Cat.cells,Mnd.cells,UA,U1,IA,I1,LA,L1,BA,B1,EA,E1,E2,eB,eI,eL])) ?_
 refine Q8 ?_
 refine Q8 ?_
 refine runQ hN fun K hK=>?_
 simp [-Q0,-Q9,-Q3,-Qa,-Q4,eL,eI,Q2,Q7,Qf,Cat.cells,Mnd.cells]
 repeat with_reducible refine sdQ ?_
 refine hK _ ?_;clear hK K
 refine tn ?_
 refine Qd (st':=⟨[(1,.adr 0 0 0),(2,.adr 1 0 0),(5,.adr 2 0 0),(6,.own 3 0 v1.length),(7,.own 4 0 0),(8,.val (.int .i64 0))],[(0,.mix 14 [(Mnd.cells true m_)]),(1,.mix 5 [[.val (.int .i64 0),.val (.slice none 0 0),.val (.slice none 0 0),.val (.slice none 0 0),.val (.slice none 0 0)]]),(2,.mix 5 [(Cat.cells true m_.f.s)]),(3,.row 1 (Ls v1)),(4,.mix 1 [])],5⟩) (Wk.r1 [(0,0),(1,1),(2,2),(3,3),(4,4)] (by simp [hP,hhOk,back,Cat.cells,Mnd.cells,UA,U1,IA,I1,LA,L1,BA,B1,EA,E1,E2,eB,eI,eL])) ?_
 replace h:=bind_some h
 obtain ⟨e2,h,h2⟩:=h
 refine Qp (fun b2:List (List Int)=>⟨[(2,.adr 0 0 0),(5,.adr 1 0 0),(6,.own 2 0 v1.length),(7,.own 3 0 b2.length)],[(0,.mix 5 [[.val (.int .i64 0),.val (.slice none 0 0),.val (.slice none 0 0),.val (.slice none 0 0),.val (.slice none 0 0)]]),(1,.mix 5 [(Cat.cells true m_.f.s)]),(2,.row 1 (Ls v1)),(3,.row 1 (Ls b2))],4⟩) (fun b2=>b2=e2) ?_ ?_
 ·refine Qh ?_
  refine QD h (fun s37:List (List Int) × Int=>⟨[(1,.adr 0 0 0),(2,.adr 1 0 0),(5,.adr 2 0 0),(6,.own 3 0 v1.length),(7,.own 4 0 s37.1.length),(8,.val (.int .i64 s37.2))],[(0,.mix 14 [(Mnd.cells true m_)]),(1,.mix 5 [[.val (.int .i64 0),.val (.slice none 0 0),.val (.slice none 0 0),.val (.slice none 0 0),.val (.slice none 0 0)]]),(2,.mix 5 [(Cat.cells true m_.f.s)]),(3,.row 1 (Ls v1)),(4,.row 1 (Ls s37.1))],5⟩) (Q3J ⟨[(1,.adr 0 0 0),(2,.adr 1 0 0),(5,.adr 2 0 0),(6,.own 3 0 v1.length),(7,.own 4 0 0),(8,.val (.int .i64 0))],[(0,.mix 14 [(Mnd.cells true m_)]),(1,.mix 5 [[.val (.int .i64 0),.val (.slice none 0 0),.val (.slice none 0 0),.val (.slice none 0 0),.val (.slice none 0 0)]]),(2,.mix 5 [(Cat.cells true m_.f.s)]),(3,.row 1 (Ls v1)),(4,.row 1 (Ls []))],5⟩ (Wk.nils [] (by simp) (by simp) (by simp [nlA]) (by simp [entN,nlL,nlA,Cat.cells,Mnd.cells,UA,U1,IA,I1,LA,L1,BA,B1,EA,E1,E2,eB,eI,eL]) (by simp)) (Wk.r1 [(0,0),(1,1),(2,2),(3,3),(4,4)] (by simp [hP,hhOk,back,Cat.cells,Mnd.cells,UA,U1,IA,I1,LA,L1,BA,B1,EA,E1,E2,eB,eI,eL]))) ?_
  clear h
  intro k37 s37 c37 h hk37
  refine Q8 ?_
  refine Q8 ?_
  refine runQ hN fun K hK=>?_
  simp [-Q0,-Q9,-Q3,-Qa,-Q4,eL,eI,Q2,Q7,Qf,Cat.cells,Mnd.cells]
  repeat with_reducible refine sdQ ?_
  refine hK _ ?_;clear hK K
  refine tn ?_
  refine Qd (st':=⟨[(1,.adr 0 0 0),(2,.adr 1 0 0),(5,.adr 2 0 0),(6,.own 3 0 v1.length),(7,.own 4 0 s37.1.length),(8,.val (.int .i64 s37.2)),(27,.val (.bool (decide (s37.2<(v1.length:Int)))))],[(0,.mix 14 [(Mnd.cells true m_)]),(1,.mix 5 [[.val (.int .i64 0),.val (.slice none 0 0),.val (.slice none 0 0),.val (.slice none 0 0),.val (.slice none 0 0)]]),(2,.mix 5 [(Cat.cells true m_.f.s)]),(3,.row 1 (Ls v1)),(4,.row 1 (Ls s37.1))],5⟩) (Wk.r1 [(0,0),(1,1),(2,2),(3,3),(4,4)] (by simp [hP,hhOk,back,Cat.cells,Mnd.cells,UA,U1,IA,I1,LA,L1,BA,B1,EA,E1,E2,eB,eI,eL])) ?_
  refine Qi rfl (fun g=>?_) fun g=>?_
  ·have g38:s37.2<(v1.length:Int):=gQ
   clear g
   replace h:=if_l g38 h
   refine Qj ?_
   refine tn ?_
   refine Q8 ?_
   replace h:=bind_some h
   obtain ⟨e39,h,h39⟩:=h
   refine Qp (fun b39:List (List Int)=>⟨[(1,.adr 0 0 0),(2,.adr 1 0 0),(5,.adr 2 0 0),(6,.own 3 0 v1.length),(7,.own 4 0 b39.length),(8,.val (.int .i64 s37.2))],[(0,.mix 14 [(Mnd.cells true m_)]),(1,.mix 5 [[.val (.int .i64 0),.val (.slice none 0 0),.val (.slice none 0 0),.val (.slice none 0 0),.val (.slice none 0 0)]]),(2,.mix 5 [(Cat.cells true m_.f.s)]),(3,.row 1 (Ls v1)),(4,.row 1 (Ls b39))],5⟩) (fun b39=>b39=e39) ?_ ?_
   ·refine Qh ?_
    refine Q8 ?_
    refine runQ hN fun K hK=>?_
    simp [-Q0,-Q9,-Q3,-Qa,-Q4,eL,eI,Q2,Q7,Qf,Cat.cells,Mnd.cells]
    repeat with_reducible refine sdQ ?_
    refine hK _ ?_;clear hK K
    refine tn ?_
    refine Qd (st':=⟨[(1,.adr 0 0 0),(2,.adr 1 0 0),(5,.adr 2 0 0),(6,.own 3 0 v1.length),(7,.own 4 0 s37.1.length),(8,.val (.int .i64 s37.2)),(9,.val (.int .i64 0))],[(0,.mix 14 [(Mnd.cells true m_)]),(1,.mix 5 [[.val (.int .i64 0),.val (.slice none 0 0),.val (.slice none 0 0),.val (.slice none 0 0),.val (.slice none 0 0)]]),(2,.mix 5 [(Cat.cells true m_.f.s)]),(3,.row 1 (Ls v1)),(4,.row 1 (Ls s37.1))],5⟩) (Wk.r1 [(0,0),(1,1),(2,2),(3,3),(4,4)] (by simp [hP,hhOk,back,Cat.cells,Mnd.cells,UA,U1,IA,I1,LA,L1,BA,B1,EA,E1,E2,eB,eI,eL])) ?_
    refine Qh ?_
    replace h:=bind_some h
    obtain ⟨e55,he55,h55⟩:=h
    refine QD he55 (fun s55:List (List Int) × Int=>⟨[(1,.adr 0 0 0),(2,.adr 1 0 0),(5,.adr 2 0 0),(6,.own 3 0 v1.length),(7,.own 4 0 s55.1.length),(8,.val (.int .i64 s37.2)),(9,.val (.int .i64 s55.2))],[(0,.mix 14 [(Mnd.cells true m_)]),(1,.mix 5 [[.val (.int .i64 0),.val (.slice none 0 0),.val (.slice none 0 0),.val (.slice none 0 0),.val (.slice none 0 0)]]),(2,.mix 5 [(Cat.cells true m_.f.s)]),(3,.row 1 (Ls v1)),(4,.row 1 (Ls s55.1))],5⟩) (Wk.r1 [(0,0),(1,1),(2,2),(3,3),(4,4)] (by simp [hP,hhOk,back,Cat.cells,Mnd.cells,UA,U1,IA,I1,LA,L1,BA,B1,EA,E1,E2,eB,eI,eL])) ?_
    intro k55 s55 c55 h hk55
    refine Q8 ?_
    refine Q8 ?_
    refine runQ hN fun K hK=>?_
    simp [-Q0,-Q9,-Q3,-Qa,-Q4,eL,eI,Q2,Q7,Qf,Cat.cells,Mnd.cells]
    repeat with_reducible refine sdQ ?_
    refine hK _ ?_;clear hK K
    refine tn ?_
    refine Qd (st':=⟨[(1,.adr 0 0 0),(2,.adr 1 0 0),(5,.adr 2 0 0),(6,.own 3 0 v1.length),(7,.own 4 0 s55.1.length),(8,.val (.int .i64 s37.2)),(9,.val (.int .i64 s55.2)),(33,.val (.bool (decide (s55.2<(v1.length:Int)))))],[(0,.mix 14 [(Mnd.cells true m_)]),(1,.mix 5 [[.val (.int .i64 0),.val (.slice none 0 0),.val (.slice none 0 0),.val (.slice none 0 0),.val (.slice none 0 0)]]),(2,.mix 5 [(Cat.cells true m_.f.s)]),(3,.row 1 (Ls v1)),(4,.row 1 (Ls s55.1))],5⟩) (Wk.r1 [(0,0),(1,1),(2,2),(3,3),(4,4)] (by simp [hP,hhOk,back,Cat.cells,Mnd.cells,UA,U1,IA,I1,LA,L1,BA,B1,EA,E1,E2,eB,eI,eL])) ?_
    refine Qi rfl (fun g=>?_) fun g=>?_
    ·have g56:s55.2<(v1.length:Int):=gQ
     clear g
     replace h:=if_l g56 h
     refine Qj ?_
     refine tn ?_
     refine Q8 ?_
     replace h:=bind_some h
     obtain ⟨e57,h,h57⟩:=h
     refine Qp (fun b57:List (List Int)=>⟨[(1,.adr 0 0 0),(2,.adr 1 0 0),(5,.adr 2 0 0),(6,.own 3 0 v1.length),(7,.own 4 0 b57.length),(8,.val (.int .i64 s37.2)),(9,.val (.int .i64 s55.2))],[(0,.mix 14 [(Mnd.cells true m_)]),(1,.mix 5 [[.val (.int .i64 0),.val (.slice none 0 0),.val (.slice none 0 0),.val (.slice none 0 0),.val (.slice none 0 0)]]),(2,.mix 5 [(Cat.cells true m_.f.s)]),(3,.row 1 (Ls v1)),(4,.row 1 (Ls b57))],5⟩) (fun b57=>b57=e57) ?_ ?_
     ·refine Qh ?_
      refine Q8 ?_
      refine runQ hN fun K hK=>?_
      replace h:=Qc h
      obtain ⟨a58,h⟩:=h
      replace h:=Qc h
      obtain ⟨a59,h⟩:=h
      simp [-Q0,-Q9,-Q3,-Qa,-Q4,eL,eI,Q2,Q7,Qf,Cat.cells,Mnd.cells,at_L a58,at_L a59]
      repeat with_reducible refine sdQ ?_
      replace h:=bind_some h
      obtain ⟨v60,hv60,h⟩:=h
      refine Q5 (Q7Y _ _ _ v60 hv60) (.cons (.aggL (.cons .val (.cons .lst (.cons .lst (.cons .lst (.cons .lst (.cons .val (.cons .lst (.cons .lst (.cons .lst (.cons .lst (.cons .lst (.cons .lst (.cons .lst (.cons .lst .nil))))))))))))))) (.cons (.whole (by simp [at_L a58]) (by simp) (by simp [at_L a58])) (.cons (.whole (by simp [at_L a59]) (by simp) (by simp [at_L a59])) .nil))) ?_
      simp [-Q0,-Q9,-Q3,-Qa,-Q4,unk,unA,unE,unT,unC,flat,eL,eI,Q2,Q7,Qf,Cat.cells,Mnd.cells,at_L a58,at_L a59]
      repeat with_reducible refine sdQ ?_
      refine hK _ ?_;clear hK K
      refine tn ?_
      refine Qd (st':=⟨[(1,.adr 0 0 0),(2,.adr 1 0 0),(5,.adr 2 0 0),(6,.own 3 0 v1.length),(7,.own 4 0 s55.1.length),(8,.val (.int .i64 s37.2)),(9,.val (.int .i64 s55.2)),(10,.own 5 0 v60.length)],[(0,.mix 14 [(Mnd.cells true m_)]),(1,.mix 5 [[.val (.int .i64 0),.val (.slice none 0 0),.val (.slice none 0 0),.val (.slice none 0 0),.val (.slice none 0 0)]]),(2,.mix 5 [(Cat.cells true m_.f.s)]),(3,.row 1 (Ls v1)),(4,.row 1 (Ls s55.1)),(5,.row 1 (Is v60))],6⟩) (Wk.r1 [(0,0),(1,1),(2,2),(3,3),(4,4),(7,5)] (by simp [hP,hhOk,back,Cat.cells,Mnd.cells,UA,U1,IA,I1,LA,L1,BA,B1,EA,E1,E2,eB,eI,eL])) ?_
      refine Q8 ?_
      refine runQ hN fun K hK=>?_
      simp [-Q0,-Q9,-Q3,-Qa,-Q4,eL,eI,Q2,Q7,Qf,Cat.cells,Mnd.cells]
      repeat with_reducible refine sdQ ?_
      refine hK _ ?_;clear hK K
      refine tn ?_
      refine Qd (st':=⟨[(1,.adr 0 0 0),(2,.adr 1 0 0),(5,.adr 2 0 0),(6,.own 3 0 v1.length),(7,.own 4 0 s55.1.length),(8,.val (.int .i64 s37.2)),(9,.val (.int .i64 s55.2)),(10,.own 5 0 v60.length),(11,.val (.int .i64 0))],[(0,.mix 14 [(Mnd.cells true m_)]),(1,.mix 5 [[.val (.int .i64 0),.val (.slice none 0 0),.val (.slice none 0 0),.val (.slice none 0 0),.val (.slice none 0 0)]]),(2,.mix 5 [(Cat.cells true m_.f.s)]),(3,.row 1 (Ls v1)),(4,.row 1 (Ls s55.1)),(5,.row 1 (Is v60))],6⟩) (Wk.r1 [(0,0),(1,1),(2,2),(3,3),(4,4),(5,5)] (by simp [hP,hhOk,back,Cat.cells,Mnd.cells,UA,U1,IA,I1,LA,L1,BA,B1,EA,E1,E2,eB,eI,eL])) ?_
      refine Qh ?_
      replace h:=bind_some h
      obtain ⟨e65,he65,h65⟩:=h
      refine QD he65 (fun s65:List (List Int) × Int=>⟨[(1,.adr 0 0 0),(2,.adr 1 0 0),(5,.adr 2 0 0),(6,.own 3 0 v1.length),(7,.own 4 0 s65.1.length),(8,.val (.int .i64 s37.2)),(9,.val (.int .i64 s55.2)),(10,.own 5 0 v60.length),(11,.val (.int .i64 s65.2))],[(0,.mix 14 [(Mnd.cells true m_)]),(1,.mix 5 [[.val (.int .i64 0),.val (.slice none 0 0),.val (.slice none 0 0),.val (.slice none 0 0),.val (.slice none 0 0)]]),(2,.mix 5 [(Cat.cells true m_.f.s)]),(3,.row 1 (Ls v1)),(4,.row 1 (Ls s65.1)),(5,.row 1 (Is v60))],6⟩) (Wk.r1 [(0,0),(1,1),(2,2),(3,3),(4,4),(5,5)] (by simp [hP,hhOk,back,Cat.cells,Mnd.cells,UA,U1,IA,I1,LA,L1,BA,B1,EA,E1,E2,eB,eI,eL])) ?_
      intro k65 s65 c65 h hk65
      refine Q8 ?_
      refine Q8 ?_
      refine runQ hN fun K hK=>?_
      simp [-Q0,-Q9,-Q3,-Qa,-Q4,eL,eI,Q2,Q7,Qf,Cat.cells,Mnd.cells]
      repeat with_reducible refine sdQ ?_
      refine hK _ ?_;clear hK K
      refine tn ?_
      refine Qd (st':=⟨[(1,.adr 0 0 0),(2,.adr 1 0 0),(5,.adr 2 0 0),(6,.own 3 0 v1.length),(7,.own 4 0 s65.1.length),(8,.val (.int .i64 s37.2)),(9,.val (.int .i64 s55.2)),(10,.own 5 0 v60.length),(11,.val (.int .i64 s65.2)),(49,.val (.bool (decide (s65.2<(v60.length:Int)))))],[(0,.mix 14 [(Mnd.cells true m_)]),(1,.mix 5 [[.val (.int .i64 0),.val (.slice none 0 0),.val (.slice none 0 0),.val (.slice none 0 0),.val (.slice none 0 0)]]),(2,.mix 5 [(Cat.cells true m_.f.s)]),(3,.row 1 (Ls v1)),(4,.row 1 (Ls s65.1)),(5,.row 1 (Is v60))],6⟩) (Wk.r1 [(0,0),(1,1),(2,2),(3,3),(4,4),(5,5)] (by simp [hP,hhOk,back,Cat.cells,Mnd.cells,UA,U1,IA,I1,LA,L1,BA,B1,EA,E1,E2,eB,eI,eL])) ?_
      refine Qi rfl (fun g=>?_) fun g=>?_
      ·have g66:s65.2<(v60.length:Int):=gQ
       clear g
       replace h:=if_l g66 h
       refine Qj ?_
       refine tn ?_
       refine Q8 ?_
       refine Qh ?_
       refine runQ hN fun K hK=>?_
       replace h:=Qc h
       obtain ⟨a67,h⟩:=h
       replace h:=Qc h
       obtain ⟨a68,h⟩:=h
       try simp only [List.length_append,List.length_cons,List.length_nil] at a68
       simp [-Q0,-Q9,-Q3,-Qa,-Q4,eL,eI,Q2,Q7,Qf,Cat.cells,Mnd.cells,at_I a67,a68]
       repeat with_reducible refine sdQ ?_
       refine hK _ ?_;clear hK K
       refine bn ?_
       refine tn ?_
       refine Qd (st':=⟨[(1,.adr 0 0 0),(2,.adr 1 0 0),(5,.adr 2 0 0),(6,.own 3 0 v1.length),(7,.own 4 0 ((s65.1++[[s37.2,s55.2,ix v60 s65.2]]).length)),(8,.val (.int .i64 s37.2)),(9,.val (.int .i64 s55.2)),(10,.own 5 0 v60.length),(11,.val (.int .i64 s65.2))],[(0,.mix 14 [(Mnd.cells true m_)]),(1,.mix 5 [[.val (.int .i64 0),.val (.slice none 0 0),.val (.slice none 0 0),.val (.slice none 0 0),.val (.slice none 0 0)]]),(2,.mix 5 [(Cat.cells true m_.f.s)]),(3,.row 1 (Ls v1)),(4,.row 1 (Ls (s65.1++[[s37.2,s55.2,ix v60 s65.2]]))),(5,.row 1 (Is v60))],6⟩) (Wk.r1 [(0,0),(1,1),(2,2),(3,3),(9,4),(5,5)] (by simp [hP,hhOk,back,Cat.cells,Mnd.cells,UA,U1,IA,I1,LA,L1,BA,B1,EA,E1,E2,eB,eI,eL])) ?_
       refine runQ hN fun K hK=>?_
       replace h:=Qc h
       obtain ⟨a69,h⟩:=h
       simp [-Q0,-Q9,-Q3,-Qa,-Q4,eL,eI,Q2,Q7,Qf,Cat.cells,Mnd.cells,QA a69]
       repeat with_reducible refine sdQ ?_
       refine hK _ ?_;clear hK K
       cases h
       exact rn (s':=(s65.1++[[s37.2,s55.2,ix v60 s65.2]],s65.2+1)) hk65 (Wk.r1 [(0,0),(1,1),(2,2),(3,3),(4,4),(5,5)] (by simp [hP,hhOk,back,Cat.cells,Mnd.cells,UA,U1,IA,I1,LA,L1,BA,B1,EA,E1,E2,eB,eI,eL]))
      have g66:¬ (s65.2<(v60.length:Int)):=gQ
      clear g
      replace h:=if_r g66 h
      refine Qu ?_
      refine tx ?_
      refine lx ?_
      refine bh ?_
      refine bn ?_
      cases h
      have q:_=e65:=hk65
      have h:=h65
      rw [← q] at h
      clear q
      try dsimp only at h
      exact jn (b:=s65.1) (Option.some.inj h) (Wk.r1 [(0,0),(1,1),(2,2),(3,3),(4,4)] (by simp [hP,hhOk,back,Cat.cells,Mnd.cells,UA,U1,IA,I1,LA,L1,BA,B1,EA,E1,E2,eB,eI,eL]))
     intro b57 hb57
     have h:=h57
     rw [← hb57] at h
     clear h57
     try dsimp only at h
     refine runQ hN fun K hK=>?_
     replace h:=Qc h
     obtain ⟨a70,h⟩:=h
     simp [-Q0,-Q9,-Q3,-Qa,-Q4,eL,eI,Q2,Q7,Qf,Cat.cells,Mnd.cells,QA a70]
     repeat with_reducible refine sdQ ?_
     refine hK _ ?_;clear hK K
     cases h
     exact rn (s':=(b57,s55.2+1)) hk55 (Wk.r1 [(0,0),(1,1),(2,2),(3,3),(4,4)] (by simp [hP,hhOk,back,Cat.cells,Mnd.cells,UA,U1,IA,I1,LA,L1,BA,B1,EA,E1,E2,eB,eI,eL]))
    have g56:¬ (s55.2<(v1.length:Int)):=gQ
    clear g
    replace h:=if_r g56 h
    refine Qu ?_
    refine tx ?_
    refine lx ?_
    refine bh ?_
    refine bn ?_
    cases h
    have q:_=e55:=hk55
    have h:=h55
    rw [← q] at h
    clear q
    try dsimp only at h
    exact jn (b:=s55.1) (Option.some.inj h) (Wk.r1 [(0,0),(1,1),(2,2),(3,3),(4,4)] (by simp [hP,hhOk,back,Cat.cells,Mnd.cells,UA,U1,IA,I1,LA,L1,BA,B1,EA,E1,E2,eB,eI,eL]))
   intro b39 hb39
   have h:=h39
   rw [← hb39] at h
   clear h39
   try dsimp only at h
   refine runQ hN fun K hK=>?_
   replace h:=Qc h
   obtain ⟨a71,h⟩:=h
   simp [-Q0,-Q9,-Q3,-Qa,-Q4,eL,eI,Q2,Q7,Qf,Cat.cells,Mnd.cells,QA a71]
   repeat with_reducible refine sdQ ?_
   refine hK _ ?_;clear hK K
   cases h
   exact rn (s':=(b39,s37.2+1)) hk37 (Wk.r1 [(0,0),(1,1),(2,2),(3,3),(4,4)] (by simp [hP,hhOk,back,Cat.cells,Mnd.cells,UA,U1,IA,I1,LA,L1,BA,B1,EA,E1,E2,eB,eI,eL]))
  have g38:¬ (s37.2<(v1.length:Int)):=gQ
  clear g
  replace h:=if_r g38 h
  refine Qu ?_
  refine tx ?_
  refine lx ?_
  refine bh ?_
  cases h
  exact jn (b:=s37.1) hk37 (Wk.r1 [(1,0),(2,1),(3,2),(4,3)] (by simp [hP,hhOk,back,Cat.cells,Mnd.cells,UA,U1,IA,I1,LA,L1,BA,B1,EA,E1,E2,eB,eI,eL]))
 intro b2 hb2
 have h:=h2
 rw [← hb2] at h
 clear h2
 try dsimp only at h
 refine Q8 ?_
 refine runQ hN fun K hK=>?_
 simp [-Q0,-Q9,-Q3,-Qa,-Q4,eL,eI,Q2,Q7,Qf,Cat.cells,Mnd.cells]
 repeat with_reducible refine sdQ ?_
 replace h:=bind_some h
 obtain ⟨v72,hv72,h⟩:=h
 refine Q5 (Q4m _ _ v72 hv72) (.cons (.whole (by simp) (by simp) (by simp)) (.cons .val .nil)) ?_
 simp [-Q0,-Q9,-Q3,-Qa,-Q4,unk,unA,unE,unT,unC,flat,eL,eI,Q2,Q7,Qf,Cat.cells,Mnd.cells]
 repeat with_reducible refine sdQ ?_
 replace h:=bind_some h
 obtain ⟨v73,hv73,h⟩:=h
 refine Q5 (Q4m _ _ v73 hv73) (.cons (.whole (by simp) (by simp) (by simp)) (.cons .val .nil)) ?_
 simp [-Q0,-Q9,-Q3,-Qa,-Q4,unk,unA,unE,unT,unC,flat,eL,eI,Q2,Q7,Qf,Cat.cells,Mnd.cells]
 repeat with_reducible refine sdQ ?_
 refine hK _ ?_;clear hK K
 refine tn ?_
 refine Qd (st':=⟨[(2,.adr 0 0 0),(5,.adr 1 0 0),(6,.own 2 0 v1.length),(7,.own 3 0 b2.length),(12,.adr 4 0 0)],[(0,.mix 5 [[.val (.int .i64 0),.val (.slice none 0 0),.val (.slice none 0 0),.val (.slice none 0 0),.val (.slice none 0 0)]]),(1,.mix 5 [(Cat.cells true m_.f.s)]),(2,.row 1 (Ls v1)),(3,.row 1 (Ls b2)),(4,.mix 5 [[.val (.int .i64 (v1.length:Int)),.own 5 0 v72.length,.own 6 0 v73.length,.own 7 0 0,.own 8 0 0]]),(5,.row 1 (Is v72)),(6,.row 1 (Is v73)),(7,.mix 1 []),(8,.mix 1 [])],9⟩) (Wk.r1 [(0,0),(1,1),(2,2),(3,3),(8,4),(4,5),(5,6),(6,7),(7,8)] (by simp [hP,hhOk,back,Cat.cells,Mnd.cells,UA,U1,IA,I1,LA,L1,BA,B1,EA,E1,E2,eB,eI,eL])) ?_
 refine Q8 ?_
 refine Q8 ?_
 refine runQ hN fun K hK=>?_
 simp [-Q0,-Q9,-Q3,-Qa,-Q4,eL,eI,Q2,Q7,Qf,Cat.cells,Mnd.cells]
 repeat with_reducible refine sdQ ?_
 refine hK _ ?_;clear hK K
 refine tn ?_
 refine Qd (st':=⟨[(2,.adr 0 0 0),(5,.adr 1 0 0),(6,.own 2 0 v1.length),(7,.own 3 0 b2.length),(12,.adr 4 0 0),(13,.val (.int .i64 0))],[(0,.mix 5 [[.val (.int .i64 0),.val (.slice none 0 0),.val (.slice none 0 0),.val (.slice none 0 0),.val (.slice none 0 0)]]),(1,.mix 5 [(Cat.cells true m_.f.s)]),(2,.row 1 (Ls v1)),(3,.row 1 (Ls b2)),(4,.mix 5 [[.val (.int .i64 (v1.length:Int)),.own 5 0 v72.length,.own 6 0 v73.length,.own 7 0 0,.own 8 0 0]]),(5,.row 1 (Is v72)),(6,.row 1 (Is v73)),(7,.mix 1 []),(8,.mix 1 [])],9⟩) (Wk.r1 [(0,0),(1,1),(2,2),(3,3),(4,4),(5,5),(6,6),(7,7),(8,8)] (by simp [hP,hhOk,back,Cat.cells,Mnd.cells,UA,U1,IA,I1,LA,L1,BA,B1,EA,E1,E2,eB,eI,eL])) ?_
 replace h:=bind_some h
 obtain ⟨e74,h,h74⟩:=h
 refine Qp (fun b74:List Int=>⟨[(2,.adr 0 0 0),(5,.adr 1 0 0),(6,.own 2 0 v1.length),(7,.own 3 0 b2.length),(12,.adr 4 0 0)],[(0,.mix 5 [[.val (.int .i64 0),.val (.slice none 0 0),.val (.slice none 0 0),.val (.slice none 0 0),.val (.slice none 0 0)]]),(1,.mix 5 [(Cat.cells true m_.f.s)]),(2,.row 1 (Ls v1)),(3,.row 1 (Ls b2)),(4,.mix 5 [[.val (.int .i64 (v1.length:Int)),.own 5 0 v72.length,.own 6 0 v73.length,.own 7 0 b74.length,.own 8 0 0]]),(5,.row 1 (Is v72)),(6,.row 1 (Is v73)),(7,.row 1 (Is b74)),(8,.mix 1 [])],9⟩) (fun b74=>b74=e74) ?_ ?_
 ·refine Qh ?_
  refine QD h (fun s82:List Int × Int=>⟨[(2,.adr 0 0 0),(5,.adr 1 0 0),(6,.own 2 0 v1.length),(7,.own 3 0 b2.length),(12,.adr 4 0 0),(13,.val (.int .i64 s82.2))],[(0,.mix 5 [[.val (.int .i64 0),.val (.slice none 0 0),.val (.slice none 0 0),.val (.slice none 0 0),.val (.slice none 0 0)]]),(1,.mix 5 [(Cat.cells true m_.f.s)]),(2,.row 1 (Ls v1)),(3,.row 1 (Ls b2)),(4,.mix 5 [[.val (.int .i64 (v1.length:Int)),.own 5 0 v72.length,.own 6 0 v73.length,.own 7 0 s82.1.length,.own 8 0 0]]),(5,.row 1 (Is v72)),(6,.row 1 (Is v73)),(7,.row 1 (Is s82.1)),(8,.mix 1 [])],9⟩) (Q3J ⟨[(2,.adr 0 0 0),(5,.adr 1 0 0),(6,.own 2 0 v1.length),(7,.own 3 0 b2.length),(12,.adr 4 0 0),(13,.val (.int .i64 0))],[(0,.mix 5 [[.val (.int .i64 0),.val (.slice none 0 0),.val (.slice none 0 0),.val (.slice none 0 0),.val (.slice none 0 0)]]),(1,.mix 5 [(Cat.cells true m_.f.s)]),(2,.row 1 (Ls v1)),(3,.row 1 (Ls b2)),(4,.mix 5 [[.val (.int .i64 (v1.length:Int)),.own 5 0 v72.length,.own 6 0 v73.length,.own 7 0 0,.own 8 0 0]]),(5,.row 1 (Is v72)),(6,.row 1 (Is v73)),(7,.row 1 (Is [])),(8,.mix 1 [])],9⟩ (Wk.nils [] (by simp) (by simp) (by simp [nlA]) (by simp [entN,nlL,nlA,Cat.cells,Mnd.cells,UA,U1,IA,I1,LA,L1,BA,B1,EA,E1,E2,eB,eI,eL]) (by simp)) (Wk.r1 [(0,0),(1,1),(2,2),(3,3),(4,4),(5,5),(6,6),(7,7),(8,8)] (by simp [hP,hhOk,back,Cat.cells,Mnd.cells,UA,U1,IA,I1,LA,L1,BA,B1,EA,E1,E2,eB,eI,eL]))) ?_
  clear h
  intro k82 s82 c82 h hk82
  refine Q8 ?_
  refine Q8 ?_
  refine runQ hN fun K hK=>?_
  simp [-Q0,-Q9,-Q3,-Qa,-Q4,eL,eI,Q2,Q7,Qf,Cat.cells,Mnd.cells]
  repeat with_reducible refine sdQ ?_
  refine hK _ ?_;clear hK K
  refine tn ?_
  refine Qd (st':=⟨[(2,.adr 0 0 0),(5,.adr 1 0 0),(6,.own 2 0 v1.length),(7,.own 3 0 b2.length),(12,.adr 4 0 0),(13,.val (.int .i64 s82.2)),(74,.val (.bool (decide (s82.2<(v1.length:Int)))))],[(0,.mix 5 [[.val (.int .i64 0),.val (.slice none 0 0),.val (.slice none 0 0),.val (.slice none 0 0),.val (.slice none 0 0)]]),(1,.mix 5 [(Cat.cells true m_.f.s)]),(2,.row 1 (Ls v1)),(3,.row 1 (Ls b2)),(4,.mix 5 [[.val (.int .i64 (v1.length:Int)),.own 5 0 v72.length,.own 6 0 v73.length,.own 7 0 s82.1.length,.own 8 0 0]]),(5,.row 1 (Is v72)),(6,.row 1 (Is v73)),(7,.row 1 (Is s82.1)),(8,.mix 1 [])],9⟩) (Wk.r1 [(0,0),(1,1),(2,2),(3,3),(4,4),(5,5),(6,6),(7,7),(8,8)] (by simp [hP,hhOk,back,Cat.cells,Mnd.cells,UA,U1,IA,I1,LA,L1,BA,B1,EA,E1,E2,eB,eI,eL])) ?_
  refine Qi rfl (fun g=>?_) fun g=>?_
  ·have g83:s82.2<(v1.length:Int):=gQ
   clear g
   replace h:=if_l g83 h
   refine Qj ?_
   refine tn ?_
   refine Q8 ?_
   refine Qh ?_
   refine runQ hN fun K hK=>?_
   replace h:=Qc h
   obtain ⟨a84,h⟩:=h
   replace h:=Qc h
   obtain ⟨a85,h⟩:=h
   replace h:=Qc h
   obtain ⟨a86,h⟩:=h
   simp [-Q0,-Q9,-Q3,-Qa,-Q4,eL,eI,Q2,Q7,Qf,Cat.cells,Mnd.cells,at_L a84,(show (Is (rx v1 s82.2))[0]? = some [.val (.int .i64 (ix (rx v1 s82.2) 0))] from at_I (j:=0) a85),at_I a86]
   repeat with_reducible refine sdQ ?_
   replace h:=bind_some h
   obtain ⟨v87,hv87,h⟩:=h
   refine Q5 (Q5u _ _ v87 hv87) (.cons (.whole (by simp) (by simp) (by simp)) (.cons (.lits (es:=_) rfl (.cons rfl (.cons .val .nil) (.cons rfl (.cons .val .nil) (.cons rfl (.cons .val .nil) .nil))) rfl) .nil)) ?_
   replace h:=Qc h
   obtain ⟨a88,h⟩:=h
   try simp only [List.length_append,List.length_cons,List.length_nil] at a88
   simp [-Q0,-Q9,-Q3,-Qa,-Q4,unk,unA,unE,unT,unC,flat,eL,eI,Q2,Q7,Qf,Cat.cells,Mnd.cells,at_L a84,at_I a86,a88]
   repeat with_reducible refine sdQ ?_
   refine hK _ ?_;clear hK K
   refine bn ?_
   refine tn ?_
   refine Qd (st':=⟨[(2,.adr 0 0 0),(5,.adr 1 0 0),(6,.own 2 0 v1.length),(7,.own 3 0 b2.length),(12,.adr 4 0 0),(13,.val (.int .i64 s82.2))],[(0,.mix 5 [[.val (.int .i64 0),.val (.slice none 0 0),.val (.slice none 0 0),.val (.slice none 0 0),.val (.slice none 0 0)]]),(1,.mix 5 [(Cat.cells true m_.f.s)]),(2,.row 1 (Ls v1)),(3,.row 1 (Ls b2)),(4,.mix 5 [[.val (.int .i64 (v1.length:Int)),.own 5 0 v72.length,.own 6 0 v73.length,.own 7 0 ((s82.1++[v87]).length),.own 8 0 0]]),(5,.row 1 (Is v72)),(6,.row 1 (Is v73)),(7,.row 1 (Is (s82.1++[v87]))),(8,.mix 1 [])],9⟩) (Wk.r1 [(0,0),(1,1),(2,2),(3,3),(4,4),(5,5),(6,6),(14,7),(8,8)] (by simp [hP,hhOk,back,Cat.cells,Mnd.cells,UA,U1,IA,I1,LA,L1,BA,B1,EA,E1,E2,eB,eI,eL])) ?_
   refine runQ hN fun K hK=>?_
   replace h:=Qc h
   obtain ⟨a89,h⟩:=h
   simp [-Q0,-Q9,-Q3,-Qa,-Q4,eL,eI,Q2,Q7,Qf,Cat.cells,Mnd.cells,QA a89]
   repeat with_reducible refine sdQ ?_
   refine hK _ ?_;clear hK K
   cases h
   exact rn (s':=(s82.1++[v87],s82.2+1)) hk82 (Wk.r1 [(0,0),(1,1),(2,2),(3,3),(4,4),(5,5),(6,6),(7,7),(8,8)] (by simp [hP,hhOk,back,Cat.cells,Mnd.cells,UA,U1,IA,I1,LA,L1,BA,B1,EA,E1,E2,eB,eI,eL]))
  have g83:¬ (s82.2<(v1.length:Int)):=gQ
  clear g
  replace h:=if_r g83 h
  refine Qu ?_
  refine tx ?_
  refine lx ?_
  refine bh ?_
  cases h
  exact jn (b:=s82.1) hk82 (Wk.r1 [(0,0),(1,1),(2,2),(3,3),(4,4),(5,5),(6,6),(7,7),(8,8)] (by simp [hP,hhOk,back,Cat.cells,Mnd.cells,UA,U1,IA,I1,LA,L1,BA,B1,EA,E1,E2,eB,eI,eL]))
 intro b74 hb74
 have h:=h74
 rw [← hb74] at h
 clear h74
 try dsimp only at h
 refine Q8 ?_
 refine Q8 ?_
 refine runQ hN fun K hK=>?_
 simp [-Q0,-Q9,-Q3,-Qa,-Q4,eL,eI,Q2,Q7,Qf,Cat.cells,Mnd.cells]
 repeat with_reducible refine sdQ ?_
 refine hK _ ?_;clear hK K
 refine tn ?_
 refine Qd (st':=⟨[(2,.adr 0 0 0),(5,.adr 1 0 0),(6,.own 2 0 v1.length),(7,.own 3 0 b2.length),(12,.adr 4 0 0),(14,.val (.int .i64 0))],[(0,.mix 5 [[.val (.int .i64 0),.val (.slice none 0 0),.val (.slice none 0 0),.val (.slice none 0 0),.val (.slice none 0 0)]]),(1,.mix 5 [(Cat.cells true m_.f.s)]),(2,.row 1 (Ls v1)),(3,.row 1 (Ls b2)),(4,.mix 5 [[.val (.int .i64 (v1.length:Int)),.own 5 0 v72.length,.own 6 0 v73.length,.own 7 0 b74.length,.own 8 0 0]]),(5,.row 1 (Is v72)),(6,.row 1 (Is v73)),(7,.row 1 (Is b74)),(8,.mix 1 [])],9⟩) (Wk.r1 [(0,0),(1,1),(2,2),(3,3),(4,4),(5,5),(6,6),(7,7),(8,8)] (by simp [hP,hhOk,back,Cat.cells,Mnd.cells,UA,U1,IA,I1,LA,L1,BA,B1,EA,E1,E2,eB,eI,eL])) ?_
 replace h:=bind_some h
 obtain ⟨e90,h,h90⟩:=h
 refine Qp (fun b90:List (List Int)=>⟨[(2,.adr 0 0 0),(6,.own 1 0 v1.length),(7,.own 2 0 b2.length),(12,.adr 3 0 0)],[(0,.mix 5 [[.val (.int .i64 0),.val (.slice none 0 0),.val (.slice none 0 0),.val (.slice none 0 0),.val (.slice none 0 0)]]),(1,.row 1 (Ls v1)),(2,.row 1 (Ls b2)),(3,.mix 5 [[.val (.int .i64 (v1.length:Int)),.own 4 0 v72.length,.own 5 0 v73.length,.own 6 0 b74.length,.own 7 0 b90.length]]),(4,.row 1 (Is v72)),(5,.row 1 (Is v73)),(6,.row 1 (Is b74)),(7,.row 1 (Ls b90))],8⟩) (fun b90=>b90=e90) ?_ ?_
 ·refine Qh ?_
  refine QD h (fun s137:List (List Int) × Int=>⟨[(2,.adr 0 0 0),(5,.adr 1 0 0),(6,.own 2 0 v1.length),(7,.own 3 0 b2.length),(12,.adr 4 0 0),(14,.val (.int .i64 s137.2))],[(0,.mix 5 [[.val (.int .i64 0),.val (.slice none 0 0),.val (.slice none 0 0),.val (.slice none 0 0),.val (.slice none 0 0)]]),(1,.mix 5 [(Cat.cells true m_.f.s)]),(2,.row 1 (Ls v1)),(3,.row 1 (Ls b2)),(4,.mix 5 [[.val (.int .i64 (v1.length:Int)),.own 5 0 v72.length,.own 6 0 v73.length,.own 7 0 b74.length,.own 8 0 s137.1.length]]),(5,.row 1 (Is v72)),(6,.row 1 (Is v73)),(7,.row 1 (Is b74)),(8,.row 1 (Ls s137.1))],9⟩) (Q3J ⟨[(2,.adr 0 0 0),(5,.adr 1 0 0),(6,.own 2 0 v1.length),(7,.own 3 0 b2.length),(12,.adr 4 0 0),(14,.val (.int .i64 0))],[(0,.mix 5 [[.val (.int .i64 0),.val (.slice none 0 0),.val (.slice none 0 0),.val (.slice none 0 0),.val (.slice none 0 0)]]),(1,.mix 5 [(Cat.cells true m_.f.s)]),(2,.row 1 (Ls v1)),(3,.row 1 (Ls b2)),(4,.mix 5 [[.val (.int .i64 (v1.length:Int)),.own 5 0 v72.length,.own 6 0 v73.length,.own 7 0 b74.length,.own 8 0 0]]),(5,.row 1 (Is v72)),(6,.row 1 (Is v73)),(7,.row 1 (Is b74)),(8,.row 1 (Ls []))],9⟩ (Wk.nils [] (by simp) (by simp) (by simp [nlA]) (by simp [entN,nlL,nlA,Cat.cells,Mnd.cells,UA,U1,IA,I1,LA,L1,BA,B1,EA,E1,E2,eB,eI,eL]) (by simp)) (Wk.r1 [(0,0),(1,1),(2,2),(3,3),(4,4),(5,5),(6,6),(7,7),(8,8)] (by simp [hP,hhOk,back,Cat.cells,Mnd.cells,UA,U1,IA,I1,LA,L1,BA,B1,EA,E1,E2,eB,eI,eL]))) ?_
  clear h
  intro k137 s137 c137 h hk137
  refine Q8 ?_
  refine Q8 ?_
  replace h:=bind_some h
  obtain ⟨e138,h,h138⟩:=h
  refine Qp (fun b138:Bool=>⟨[(2,.adr 0 0 0),(5,.adr 1 0 0),(6,.own 2 0 v1.length),(7,.own 3 0 b2.length),(12,.adr 4 0 0),(14,.val (.int .i64 s137.2)),(104,.val (.bool b138))],[(0,.mix 5 [[.val (.int .i64 0),.val (.slice none 0 0),.val (.slice none 0 0),.val (.slice none 0 0),.val (.slice none 0 0)]]),(1,.mix 5 [(Cat.cells true m_.f.s)]),(2,.row 1 (Ls v1)),(3,.row 1 (Ls b2)),(4,.mix 5 [[.val (.int .i64 (v1.length:Int)),.own 5 0 v72.length,.own 6 0 v73.length,.own 7 0 b74.length,.own 8 0 s137.1.length]]),(5,.row 1 (Is v72)),(6,.row 1 (Is v73)),(7,.row 1 (Is b74)),(8,.row 1 (Ls s137.1))],9⟩) (fun b138=>b138=e138) ?_ ?_
  ·refine runQ hN fun K hK=>?_
   simp [-Q0,-Q9,-Q3,-Qa,-Q4,eL,eI,Q2,Q7,Qf,Cat.cells,Mnd.cells]
   repeat with_reducible refine sdQ ?_
   refine Qr (fun g=>?_) (fun g=>?_)
   ·have g139:s137.2<(b2.length:Int):=gQ
    clear g
    replace h:=if_l g139 h
    simp [-Q0,-Q9,-Q3,-Qa,-Q4,eL,eI,Q2,Q7,Qf,Cat.cells,Mnd.cells]
    repeat with_reducible refine sdQ ?_
    replace h:=bind_some h
    obtain ⟨v140,hv140,h⟩:=h
    refine Q5 (Q5s _ v140 hv140) (.cons (.aggL (.cons .val (.cons (.whole (by simp) (by simp) (by simp)) (.cons (.whole (by simp) (by simp) (by simp)) (.cons (.whole (by simp) (by simp) (by simp)) (.cons (.whole (by simp) (by simp) (by simp)) .nil)))))) .nil) ?_
    simp [-Q0,-Q9,-Q3,-Qa,-Q4,unk,unA,unE,unT,unC,flat,eL,eI,Q2,Q7,Qf,Cat.cells,Mnd.cells]
    repeat with_reducible refine sdQ ?_
    refine hK _ ?_
    exact jn (b:=v140) (Option.some.inj h) (Wk.r1 [(0,0),(1,1),(2,2),(3,3),(4,4),(5,5),(6,6),(7,7),(8,8)] (by simp [hP,hhOk,back,Cat.cells,Mnd.cells,UA,U1,IA,I1,LA,L1,BA,B1,EA,E1,E2,eB,eI,eL]))
   have g139:¬ (s137.2<(b2.length:Int)):=gQ
   clear g
   replace h:=if_r g139 h
   simp [-Q0,-Q9,-Q3,-Qa,-Q4,eL,eI,Q2,Q7,Qf,Cat.cells,Mnd.cells]
   repeat with_reducible refine sdQ ?_
   refine hK _ ?_
   exact jn (b:=false) (Option.some.inj h) (Wk.r1 [(0,0),(1,1),(2,2),(3,3),(4,4),(5,5),(6,6),(7,7),(8,8)] (by simp [hP,hhOk,back,Cat.cells,Mnd.cells,UA,U1,IA,I1,LA,L1,BA,B1,EA,E1,E2,eB,eI,eL]))
  intro b138 hb138
  have h:=h138
  rw [← hb138] at h
  clear h138
  try dsimp only at h
  refine Qi rfl (fun g=>?_) fun g=>?_
  ·have g141:b138=true:=gQ
   clear g
   replace h:=if_l g141 h
   refine Qj ?_
   refine tn ?_
   refine Q8 ?_
   refine Qh ?_
   refine Q8 ?_
   refine runQ hN fun K hK=>?_
   simp [-Q0,-Q9,-Q3,-Qa,-Q4,eL,eI,Q2,Q7,Qf,Cat.cells,Mnd.cells]
   repeat with_reducible refine sdQ ?_
   refine hK _ ?_;clear hK K
   refine tn ?_
   refine Qd (st':=⟨[(2,.adr 0 0 0),(5,.adr 1 0 0),(6,.own 2 0 v1.length),(7,.own 3 0 b2.length),(12,.adr 4 0 0),(14,.val (.int .i64 s137.2)),(15,.own 9 0 0)],[(0,.mix 5 [[.val (.int .i64 0),.val (.slice none 0 0),.val (.slice none 0 0),.val (.slice none 0 0),.val (.slice none 0 0)]]),(1,.mix 5 [(Cat.cells true m_.f.s)]),(2,.row 1 (Ls v1)),(3,.row 1 (Ls b2)),(4,.mix 5 [[.val (.int .i64 (v1.length:Int)),.own 5 0 v72.length,.own 6 0 v73.length,.own 7 0 b74.length,.own 8 0 s137.1.length]]),(5,.row 1 (Is v72)),(6,.row 1 (Is v73)),(7,.row 1 (Is b74)),(8,.row 1 (Ls s137.1)),(9,.mix 1 [])],10⟩) (Wk.r1 [(0,0),(1,1),(2,2),(3,3),(4,4),(5,5),(6,6),(7,7),(8,8),(9,9)] (by simp [hP,hhOk,back,Cat.cells,Mnd.cells,UA,U1,IA,I1,LA,L1,BA,B1,EA,E1,E2,eB,eI,eL])) ?_
   refine Q8 ?_
   refine Q8 ?_
   refine runQ hN fun K hK=>?_
   simp [-Q0,-Q9,-Q3,-Qa,-Q4,eL,eI,Q2,Q7,Qf,Cat.cells,Mnd.cells]
   repeat with_reducible refine sdQ ?_
   refine hK _ ?_;clear hK K
   refine tn ?_
   refine Qd (st':=⟨[(2,.adr 0 0 0),(5,.adr 1 0 0),(6,.own 2 0 v1.length),(7,.own 3 0 b2.length),(12,.adr 4 0 0),(14,.val (.int .i64 s137.2)),(15,.own 9 0 0),(16,.val (.int .i64 0))],[(0,.mix 5 [[.val (.int .i64 0),.val (.slice none 0 0),.val (.slice none 0 0),.val (.slice none 0 0),.val (.slice none 0 0)]]),(1,.mix 5 [(Cat.cells true m_.f.s)]),(2,.row 1 (Ls v1)),(3,.row 1 (Ls b2)),(4,.mix 5 [[.val (.int .i64 (v1.length:Int)),.own 5 0 v72.length,.own 6 0 v73.length,.own 7 0 b74.length,.own 8 0 s137.1.length]]),(5,.row 1 (Is v72)),(6,.row 1 (Is v73)),(7,.row 1 (Is b74)),(8,.row 1 (Ls s137.1)),(9,.mix 1 [])],10⟩) (Wk.r1 [(0,0),(1,1),(2,2),(3,3),(4,4),(5,5),(6,6),(7,7),(8,8),(9,9)] (by simp [hP,hhOk,back,Cat.cells,Mnd.cells,UA,U1,IA,I1,LA,L1,BA,B1,EA,E1,E2,eB,eI,eL])) ?_
   replace h:=bind_some h
   obtain ⟨e142,h,h142⟩:=h
   refine Qp (fun b142:List Int=>⟨[(2,.adr 0 0 0),(5,.adr 1 0 0),(6,.own 2 0 v1.length),(7,.own 3 0 b2.length),(12,.adr 4 0 0),(14,.val (.int .i64 s137.2)),(15,.own 9 0 b142.length)],[(0,.mix 5 [[.val (.int .i64 0),.val (.slice none 0 0),.val (.slice none 0 0),.val (.slice none 0 0),.val (.slice none 0 0)]]),(1,.mix 5 [(Cat.cells true m_.f.s)]),(2,.row 1 (Ls v1)),(3,.row 1 (Ls b2)),(4,.mix 5 [[.val (.int .i64 (v1.length:Int)),.own 5 0 v72.length,.own 6 0 v73.length,.own 7 0 b74.length,.own 8 0 s137.1.length]]),(5,.row 1 (Is v72)),(6,.row 1 (Is v73)),(7,.row 1 (Is b74)),(8,.row 1 (Ls s137.1)),(9,.row 1 (Is b142))],10⟩) (fun b142=>b142=e142) ?_ ?_
   ·refine Qh ?_
    refine QD h (fun s162:List Int × Int=>⟨[(2,.adr 0 0 0),(5,.adr 1 0 0),(6,.own 2 0 v1.length),(7,.own 3 0 b2.length),(12,.adr 4 0 0),(14,.val (.int .i64 s137.2)),(15,.own 9 0 s162.1.length),(16,.val (.int .i64 s162.2))],[(0,.mix 5 [[.val (.int .i64 0),.val (.slice none 0 0),.val (.slice none 0 0),.val (.slice none 0 0),.val (.slice none 0 0)]]),(1,.mix 5 [(Cat.cells true m_.f.s)]),(2,.row 1 (Ls v1)),(3,.row 1 (Ls b2)),(4,.mix 5 [[.val (.int .i64 (v1.length:Int)),.own 5 0 v72.length,.own 6 0 v73.length,.own 7 0 b74.length,.own 8 0 s137.1.length]]),(5,.row 1 (Is v72)),(6,.row 1 (Is v73)),(7,.row 1 (Is b74)),(8,.row 1 (Ls s137.1)),(9,.row 1 (Is s162.1))],10⟩) (Q3J ⟨[(2,.adr 0 0 0),(5,.adr 1 0 0),(6,.own 2 0 v1.length),(7,.own 3 0 b2.length),(12,.adr 4 0 0),(14,.val (.int .i64 s137.2)),(15,.own 9 0 0),(16,.val (.int .i64 0))],[(0,.mix 5 [[.val (.int .i64 0),.val (.slice none 0 0),.val (.slice none 0 0),.val (.slice none 0 0),.val (.slice none 0 0)]]),(1,.mix 5 [(Cat.cells true m_.f.s)]),(2,.row 1 (Ls v1)),(3,.row 1 (Ls b2)),(4,.mix 5 [[.val (.int .i64 (v1.length:Int)),.own 5 0 v72.length,.own 6 0 v73.length,.own 7 0 b74.length,.own 8 0 s137.1.length]]),(5,.row 1 (Is v72)),(6,.row 1 (Is v73)),(7,.row 1 (Is b74)),(8,.row 1 (Ls s137.1)),(9,.row 1 (Is []))],10⟩ (Wk.nils [] (by simp) (by simp) (by simp [nlA]) (by simp [entN,nlL,nlA,Cat.cells,Mnd.cells,UA,U1,IA,I1,LA,L1,BA,B1,EA,E1,E2,eB,eI,eL]) (by simp)) (Wk.r1 [(0,0),(1,1),(2,2),(3,3),(4,4),(5,5),(6,6),(7,7),(8,8),(9,9)] (by simp [hP,hhOk,back,Cat.cells,Mnd.cells,UA,U1,IA,I1,LA,L1,BA,B1,EA,E1,E2,eB,eI,eL]))) ?_
    clear h
    intro k162 s162 c162 h hk162
    refine Q8 ?_
    refine Q8 ?_
    refine runQ hN fun K hK=>?_
    simp [-Q0,-Q9,-Q3,-Qa,-Q4,eL,eI,Q2,Q7,Qf,Cat.cells,Mnd.cells]
    repeat with_reducible refine sdQ ?_
    refine hK _ ?_;clear hK K
    refine tn ?_
    refine Qd (st':=⟨[(2,.adr 0 0 0),(5,.adr 1 0 0),(6,.own 2 0 v1.length),(7,.own 3 0 b2.length),(12,.adr 4 0 0),(14,.val (.int .i64 s137.2)),(15,.own 9 0 s162.1.length),(16,.val (.int .i64 s162.2)),(111,.val (.bool (decide (s162.2<(b2.length:Int)))))],[(0,.mix 5 [[.val (.int .i64 0),.val (.slice none 0 0),.val (.slice none 0 0),.val (.slice none 0 0),.val (.slice none 0 0)]]),(1,.mix 5 [(Cat.cells true m_.f.s)]),(2,.row 1 (Ls v1)),(3,.row 1 (Ls b2)),(4,.mix 5 [[.val (.int .i64 (v1.length:Int)),.own 5 0 v72.length,.own 6 0 v73.length,.own 7 0 b74.length,.own 8 0 s137.1.length]]),(5,.row 1 (Is v72)),(6,.row 1 (Is v73)),(7,.row 1 (Is b74)),(8,.row 1 (Ls s137.1)),(9,.row 1 (Is s162.1))],10⟩) (Wk.r1 [(0,0),(1,1),(2,2),(3,3),(4,4),(5,5),(6,6),(7,7),(8,8),(9,9)] (by simp [hP,hhOk,back,Cat.cells,Mnd.cells,UA,U1,IA,I1,LA,L1,BA,B1,EA,E1,E2,eB,eI,eL])) ?_
    refine Qi rfl (fun g=>?_) fun g=>?_
    ·have g163:s162.2<(b2.length:Int):=gQ
     clear g
     replace h:=if_l g163 h
     refine Qj ?_
     refine tn ?_
     refine Q8 ?_
     refine Qh ?_
     refine Q8 ?_
     refine runQ hN fun K hK=>?_
     simp [-Q0,-Q9,-Q3,-Qa,-Q4,eL,eI,Q2,Q7,Qf,Cat.cells,Mnd.cells]
     repeat with_reducible refine sdQ ?_
     refine hK _ ?_;clear hK K
     refine tn ?_
     refine Qd (st':=⟨[(2,.adr 0 0 0),(5,.adr 1 0 0),(6,.own 2 0 v1.length),(7,.own 3 0 b2.length),(12,.adr 4 0 0),(14,.val (.int .i64 s137.2)),(15,.own 9 0 s162.1.length),(16,.val (.int .i64 s162.2)),(17,.val (.int .i64 (-1)))],[(0,.mix 5 [[.val (.int .i64 0),.val (.slice none 0 0),.val (.slice none 0 0),.val (.slice none 0 0),.val (.slice none 0 0)]]),(1,.mix 5 [(Cat.cells true m_.f.s)]),(2,.row 1 (Ls v1)),(3,.row 1 (Ls b2)),(4,.mix 5 [[.val (.int .i64 (v1.length:Int)),.own 5 0 v72.length,.own 6 0 v73.length,.own 7 0 b74.length,.own 8 0 s137.1.length]]),(5,.row 1 (Is v72)),(6,.row 1 (Is v73)),(7,.row 1 (Is b74)),(8,.row 1 (Ls s137.1)),(9,.row 1 (Is s162.1))],10⟩) (Wk.r1 [(0,0),(1,1),(2,2),(3,3),(4,4),(5,5),(6,6),(7,7),(8,8),(9,9)] (by simp [hP,hhOk,back,Cat.cells,Mnd.cells,UA,U1,IA,I1,LA,L1,BA,B1,EA,E1,E2,eB,eI,eL])) ?_
     refine Q8 ?_
     refine Q8 ?_
     refine runQ hN fun K hK=>?_
     replace h:=Qc h
     obtain ⟨a164,h⟩:=h
     replace h:=Qc h
     obtain ⟨a165,h⟩:=h
     replace h:=Qc h
     obtain ⟨a166,h⟩:=h
     replace h:=Qc h
     obtain ⟨a167,h⟩:=h
     simp [-Q0,-Q9,-Q3,-Qa,-Q4,eL,eI,Q2,Q7,Qf,Cat.cells,Mnd.cells,at_L a164,(show (Is (rx b2 s137.2))[1]? = some [.val (.int .i64 (ix (rx b2 s137.2) 1))] from at_I (j:=1) a165),at_L a166,(show (Is (rx b2 s162.2))[0]? = some [.val (.int .i64 (ix (rx b2 s162.2) 0))] from at_I (j:=0) a167)]
     repeat with_reducible refine sdQ ?_
     refine hK _ ?_;clear hK K
     refine tn ?_
     refine Qd (st':=⟨[(2,.adr 0 0 0),(5,.adr 1 0 0),(6,.own 2 0 v1.length),(7,.own 3 0 b2.length),(12,.adr 4 0 0),(14,.val (.int .i64 s137.2)),(15,.own 9 0 s162.1.length),(16,.val (.int .i64 s162.2)),(17,.val (.int .i64 (-1))),(126,.val (.bool ((ix (rx b2 s137.2) 1) == (ix (rx b2 s162.2) 0))))],[(0,.mix 5 [[.val (.int .i64 0),.val (.slice none 0 0),.val (.slice none 0 0),.val (.slice none 0 0),.val (.slice none 0 0)]]),(1,.mix 5 [(Cat.cells true m_.f.s)]),(2,.row 1 (Ls v1)),(3,.row 1 (Ls b2)),(4,.mix 5 [[.val (.int .i64 (v1.length:Int)),.own 5 0 v72.length,.own 6 0 v73.length,.own 7 0 b74.length,.own 8 0 s137.1.length]]),(5,.row 1 (Is v72)),(6,.row 1 (Is v73)),(7,.row 1 (Is b74)),(8,.row 1 (Ls s137.1)),(9,.row 1 (Is s162.1))],10⟩) (Wk.r1 [(0,0),(1,1),(2,2),(3,3),(4,4),(5,5),(6,6),(7,7),(8,8),(9,9)] (by simp [hP,hhOk,back,Cat.cells,Mnd.cells,UA,U1,IA,I1,LA,L1,BA,B1,EA,E1,E2,eB,eI,eL])) ?_
     replace h:=bind_some h
     obtain ⟨e168,h,h168⟩:=h
     refine Qp (fun b168:Int=>⟨[(2,.adr 0 0 0),(5,.adr 1 0 0),(6,.own 2 0 v1.length),(7,.own 3 0 b2.length),(12,.adr 4 0 0),(14,.val (.int .i64 s137.2)),(15,.own 9 0 s162.1.length),(16,.val (.int .i64 s162.2)),(17,.val (.int .i64 b168))],[(0,.mix 5 [[.val (.int .i64 0),.val (.slice none 0 0),.val (.slice none 0 0),.val (.slice none 0 0),.val (.slice none 0 0)]]),(1,.mix 5 [(Cat.cells true m_.f.s)]),(2,.row 1 (Ls v1)),(3,.row 1 (Ls b2)),(4,.mix 5 [[.val (.int .i64 (v1.length:Int)),.own 5 0 v72.length,.own 6 0 v73.length,.own 7 0 b74.length,.own 8 0 s137.1.length]]),(5,.row 1 (Is v72)),(6,.row 1 (Is v73)),(7,.row 1 (Is b74)),(8,.row 1 (Ls s137.1)),(9,.row 1 (Is s162.1))],10⟩) (fun b168=>b168=e168) ?_ ?_
     ·refine Qi rfl (fun g=>?_) fun g=>?_
      ·have g169:(ix (rx b2 s137.2) 1)=(ix (rx b2 s162.2) 0):=gQ
       clear g
       replace h:=if_l g169 h
       refine runQ hN fun K hK=>?_
       replace h:=Qc h
       obtain ⟨a170,h⟩:=h
       replace h:=Qc h
       obtain ⟨a171,h⟩:=h
       replace h:=Qc h
       obtain ⟨a172,h⟩:=h
       replace h:=Qc h
       obtain ⟨a173,h⟩:=h
       replace h:=Qc h
       obtain ⟨a174,h⟩:=h
       replace h:=Qc h
       obtain ⟨a175,h⟩:=h
       replace h:=Qc h
       obtain ⟨a176,h⟩:=h
       replace h:=Qc h
       obtain ⟨a177,h⟩:=h
       simp [-Q0,-Q9,-Q3,-Qa,-Q4,eL,eI,Q2,Q7,Qf,Cat.cells,Mnd.cells,at_L a170,(show (Is (rx b2 s137.2))[0]? = some [.val (.int .i64 (ix (rx b2 s137.2) 0))] from at_I (j:=0) a171),at_L a172,(show (Is (rx b2 s162.2))[1]? = some [.val (.int .i64 (ix (rx b2 s162.2) 1))] from at_I (j:=1) a173),at_L a174,(show (Is (rx b2 s137.2))[2]? = some [.val (.int .i64 (ix (rx b2 s137.2) 2))] from at_I (j:=2) a175),at_L a176,(show (Is (rx b2 s162.2))[2]? = some [.val (.int .i64 (ix (rx b2 s162.2) 2))] from at_I (j:=2) a177)]
       repeat with_reducible refine sdQ ?_
       replace h:=bind_some h
       obtain ⟨v178,hv178,h⟩:=h
       refine Q5 (Q12 _ _ _ v178 hv178) (.cons (.aggL (.cons .val (.cons .lst (.cons .lst (.cons .lst (.cons .lst .nil)))))) (.cons .val (.cons .val .nil))) ?_
       simp [-Q0,-Q9,-Q3,-Qa,-Q4,unk,unA,unE,unT,unC,flat,eL,eI,Q2,Q7,Qf,Cat.cells,Mnd.cells,at_L a170,at_L a172,at_L a174,at_L a176]
       repeat with_reducible refine sdQ ?_
       replace h:=bind_some h
       obtain ⟨v179,hv179,h⟩:=h
       refine Q5 (Q5u _ _ v179 hv179) (.cons (.whole (by simp) (by simp) (by simp)) (.cons (.lits (es:=_) rfl (.cons rfl (.cons .val .nil) (.cons rfl (.cons .val .nil) (.cons rfl (.cons .val .nil) .nil))) rfl) .nil)) ?_
       simp [-Q0,-Q9,-Q3,-Qa,-Q4,unk,unA,unE,unT,unC,flat,eL,eI,Q2,Q7,Qf,Cat.cells,Mnd.cells,at_L a170,at_L a172,at_L a174,at_L a176]
       repeat with_reducible refine sdQ ?_
       refine hK _ ?_;clear hK K
       exact jn (b:=v179) (Option.some.inj h) (Wk.r1 [(0,0),(1,1),(2,2),(3,3),(4,4),(5,5),(6,6),(7,7),(8,8),(9,9)] (by simp [hP,hhOk,back,Cat.cells,Mnd.cells,UA,U1,IA,I1,LA,L1,BA,B1,EA,E1,E2,eB,eI,eL]))
      have g169:¬ ((ix (rx b2 s137.2) 1)=(ix (rx b2 s162.2) 0)):=gQ
      clear g
      replace h:=if_r g169 h
      refine Qj ?_
      exact jn (b:=(-1)) (Option.some.inj h) (Wk.r1 [(0,0),(1,1),(2,2),(3,3),(4,4),(5,5),(6,6),(7,7),(8,8),(9,9)] (by simp [hP,hhOk,back,Cat.cells,Mnd.cells,UA,U1,IA,I1,LA,L1,BA,B1,EA,E1,E2,eB,eI,eL]))
     intro b168 hb168
     have h:=h168
     rw [← hb168] at h
     clear h168
     try dsimp only at h
     refine runQ hN fun K hK=>?_
     replace h:=Qc h
     obtain ⟨a180,h⟩:=h
     try simp only [List.length_append,List.length_cons,List.length_nil] at a180
     simp [-Q0,-Q9,-Q3,-Qa,-Q4,eL,eI,Q2,Q7,Qf,Cat.cells,Mnd.cells,a180]
     repeat with_reducible refine sdQ ?_
     refine hK _ ?_;clear hK K
     refine bn ?_
     refine tn ?_
     refine Qd (st':=⟨[(2,.adr 0 0 0),(5,.adr 1 0 0),(6,.own 2 0 v1.length),(7,.own 3 0 b2.length),(12,.adr 4 0 0),(14,.val (.int .i64 s137.2)),(15,.own 9 0 ((s162.1++[b168]).length)),(16,.val (.int .i64 s162.2))],[(0,.mix 5 [[.val (.int .i64 0),.val (.slice none 0 0),.val (.slice none 0 0),.val (.slice none 0 0),.val (.slice none 0 0)]]),(1,.mix 5 [(Cat.cells true m_.f.s)]),(2,.row 1 (Ls v1)),(3,.row 1 (Ls b2)),(4,.mix 5 [[.val (.int .i64 (v1.length:Int)),.own 5 0 v72.length,.own 6 0 v73.length,.own 7 0 b74.length,.own 8 0 s137.1.length]]),(5,.row 1 (Is v72)),(6,.row 1 (Is v73)),(7,.row 1 (Is b74)),(8,.row 1 (Ls s137.1)),(9,.row 1 (Is (s162.1++[b168])))],10⟩) (Wk.r1 [(0,0),(1,1),(2,2),(3,3),(4,4),(5,5),(6,6),(7,7),(8,8),(11,9)] (by simp [hP,hhOk,back,Cat.cells,Mnd.cells,UA,U1,IA,I1,LA,L1,BA,B1,EA,E1,E2,eB,eI,eL])) ?_
     refine runQ hN fun K hK=>?_
     replace h:=Qc h
     obtain ⟨a181,h⟩:=h
     simp [-Q0,-Q9,-Q3,-Qa,-Q4,eL,eI,Q2,Q7,Qf,Cat.cells,Mnd.cells,QA a181]
     repeat with_reducible refine sdQ ?_
     refine hK _ ?_;clear hK K
     cases h
     exact rn (s':=(s162.1++[b168],s162.2+1)) hk162 (Wk.r1 [(0,0),(1,1),(2,2),(3,3),(4,4),(5,5),(6,6),(7,7),(8,8),(9,9)] (by simp [hP,hhOk,back,Cat.cells,Mnd.cells,UA,U1,IA,I1,LA,L1,BA,B1,EA,E1,E2,eB,eI,eL]))
    have g163:¬ (s162.2<(b2.length:Int)):=gQ
    clear g
    replace h:=if_r g163 h
    refine Qu ?_
    refine tx ?_
    refine lx ?_
    refine bh ?_
    cases h
    exact jn (b:=s162.1) hk162 (Wk.r1 [(0,0),(1,1),(2,2),(3,3),(4,4),(5,5),(6,6),(7,7),(8,8),(9,9)] (by simp [hP,hhOk,back,Cat.cells,Mnd.cells,UA,U1,IA,I1,LA,L1,BA,B1,EA,E1,E2,eB,eI,eL]))
   intro b142 hb142
   have h:=h142
   rw [← hb142] at h
   clear h142
   try dsimp only at h
   refine runQ hN fun K hK=>?_
   replace h:=Qc h
   obtain ⟨a182,h⟩:=h
   try simp only [List.length_append,List.length_cons,List.length_nil] at a182
   simp [-Q0,-Q9,-Q3,-Qa,-Q4,eL,eI,Q2,Q7,Qf,Cat.cells,Mnd.cells,a182]
   repeat with_reducible refine sdQ ?_
   refine hK _ ?_;clear hK K
   refine bn ?_
   refine tn ?_
   refine Qd (st':=⟨[(2,.adr 0 0 0),(5,.adr 1 0 0),(6,.own 2 0 v1.length),(7,.own 3 0 b2.length),(12,.adr 4 0 0),(14,.val (.int .i64 s137.2))],[(0,.mix 5 [[.val (.int .i64 0),.val (.slice none 0 0),.val (.slice none 0 0),.val (.slice none 0 0),.val (.slice none 0 0)]]),(1,.mix 5 [(Cat.cells true m_.f.s)]),(2,.row 1 (Ls v1)),(3,.row 1 (Ls b2)),(4,.mix 5 [[.val (.int .i64 (v1.length:Int)),.own 5 0 v72.length,.own 6 0 v73.length,.own 7 0 b74.length,.own 8 0 ((s137.1++[b142]).length)]]),(5,.row 1 (Is v72)),(6,.row 1 (Is v73)),(7,.row 1 (Is b74)),(8,.row 1 (Ls (s137.1++[b142])))],9⟩) (Wk.r1 [(0,0),(1,1),(2,2),(3,3),(4,4),(5,5),(6,6),(7,7),(11,8)] (by simp [hP,hhOk,back,Cat.cells,Mnd.cells,UA,U1,IA,I1,LA,L1,BA,B1,EA,E1,E2,eB,eI,eL])) ?_
   refine runQ hN fun K hK=>?_
   replace h:=Qc h
   obtain ⟨a183,h⟩:=h
   simp [-Q0,-Q9,-Q3,-Qa,-Q4,eL,eI,Q2,Q7,Qf,Cat.cells,Mnd.cells,QA a183]
   repeat with_reducible refine sdQ ?_
   refine hK _ ?_;clear hK K
   cases h
   exact rn (s':=(s137.1++[b142],s137.2+1)) hk137 (Wk.r1 [(0,0),(1,1),(2,2),(3,3),(4,4),(5,5),(6,6),(7,7),(8,8)] (by simp [hP,hhOk,back,Cat.cells,Mnd.cells,UA,U1,IA,I1,LA,L1,BA,B1,EA,E1,E2,eB,eI,eL]))
  have g141:¬ (b138=true):=gQ
  clear g
  replace h:=if_r g141 h
  refine Qu ?_
  refine tx ?_
  refine lx ?_
  refine bh ?_
  cases h
  exact jn (b:=s137.1) hk137 (Wk.r1 [(0,0),(2,1),(3,2),(4,3),(5,4),(6,5),(7,6),(8,7)] (by simp [hP,hhOk,back,Cat.cells,Mnd.cells,UA,U1,IA,I1,LA,L1,BA,B1,EA,E1,E2,eB,eI,eL]))
 intro b90 hb90
 have h:=h90
 rw [← hb90] at h
 clear h90
 try dsimp only at h
 refine Q8 ?_
 refine runQ hN fun K hK=>?_
 simp [-Q0,-Q9,-Q3,-Qa,-Q4,eL,eI,Q2,Q7,Qf,Cat.cells,Mnd.cells]
 repeat with_reducible refine sdQ ?_
 refine hK _ ?_;clear hK K
 refine tn ?_
 refine Qd (st':=⟨[(2,.adr 0 0 0),(3,.own 5 0 v1.length),(4,.own 6 0 b2.length)],[(0,.mix 5 [[.val (.int .i64 (v1.length:Int)),.own 1 0 v72.length,.own 2 0 v73.length,.own 3 0 b74.length,.own 4 0 b90.length]]),(1,.row 1 (Is v72)),(2,.row 1 (Is v73)),(3,.row 1 (Is b74)),(4,.row 1 (Ls b90)),(5,.row 1 (Ls v1)),(6,.row 1 (Ls b2))],7⟩) (Wk.r1 [(0,0),(4,1),(5,2),(6,3),(7,4),(1,5),(2,6)] (by simp [hP,hhOk,back,Cat.cells,Mnd.cells,UA,U1,IA,I1,LA,L1,BA,B1,EA,E1,E2,eB,eI,eL])) ?_
 refine Qn ?_
 have hr:=Option.some.inj h
 rw [← hr]
 refine ⟨_,(.cell Q76 rfl rfl rfl (by simp) (by simp) (.tmp (.tmp .nil))),?_⟩
 refine ⟨(.agg rfl (.one rfl rfl (.one rfl rfl .nil))),[.val (.int .i64 (v1.length:Int)),.lst true 1 (Is v72),.lst true 1 (Is v73),.lst true 1 (Is b74),.lst true 1 (Ls b90),.lst true 1 (Ls v1),.lst true 1 (Ls b2)],[1,2,3,4,5,6],by simp [Cat.cells,Mnd.cells,UA,U1,IA,I1,LA,L1,BA,B1,EA,E1,E2,eB,eI,eL],by simp,(UpL.refl _)⟩
end Go.Vc.T
namespace Go.Vc.T
open Go Go.Vc Go.Proofs
theorem al_bnd {m:Mnd} (hm:m.Is):(alL m).length≤5000000:=by
 have h1:=Q7h hm (av m).length
 have h2:=Q83 hm
 have:(av m).length * 12800≤320 * 12800:=Nat.mul_le_mul_right _ h2
 unfold alL
 omega
theorem Q6t {L:List (List Int)} {k:Int} (hn:L.length≤5000000) (h0:0≤k) (hx:∀ x∈L,k<x.length):Q1d L k=some (L.map (ix · k)):=by
 unfold Q1d
 refine QN L.length (fun i=>(L.take i).map (ix · k)) (e:=L.map (ix · k)) (by simp) (by omega) (fun i hi=>?_) (by simp) rfl
 have h1:=hx _ (Q5B hi)
 have h2:=take_rx hi
 simp (disch:=omega) [Qg,B64,h2];try omega
theorem e_findB {L:List (List Int)} (hn:L.length≤5000000) (x:List Int):Q22 L x=some (posL L x):=by
 unfold Q22 Q39 posL
 refine fst_bind L.length (fun i=>rx L i=x) (eb:=fun i=>Sum.inr (i:Int)) (eg:=Sum.inl ()) (by omega) (fun i hi h=>?_) (fun i hi h=>?_) (by simp) (fun m hm hp hlt=>?_) fun h=>?_
 ·rw [if_pos (by omega),Qg (by omega)]
  simp only [Option.bind_some,decide_eq_true_eq,if_neg h]
  rw [Qg (by unfold B64;omega)]
 ·rw [if_pos (by omega),Qg (by omega)]
  simp only [Option.bind_some,decide_eq_true_eq,if_pos h]
 ·simp only;rw [fstN_at hm hp hlt]
 simp only;rw [fstN_no h]
theorem ix_map {L:List (List Int)} {i:Nat} (hi:i<L.length) (k:Int):ix (L.map (ix · k)) i=ix (rx L i) k:=by simp [ix,rx,List.getD_eq_getElem?_getD,hi]
noncomputable def bRow (L:List (List Int)) (cmp:List Int→List Int→Int) (i j:Nat):Int:=if ix (rx L i) 1=ix (rx L j) 0 then posL L [ix (rx L i) 0,ix (rx L j) 1,cmp (rx L i) (rx L j)] else -1
noncomputable def aCmp (m:Mnd) (a b:List Int):Int:=ix (rx m.f.s.cs (ix a 2)) (ix b 2)
theorem e_avl {m:Mnd} (hm:m.Is):Q2v m=some (avL m):=e_l17All hm
theorem Q8H {m:Mnd} (hm:m.Is):Q2c m=some (if (av m).length≤8∧(alL m).length≤40 then aC m else { aC m with cs:=[] },avL m,alL m):=by
 obtain ⟨l1,l2,l3,l4,l5,l6,l7,l8,l9⟩:=hm.pre.len
 have hc:=hm.pre.f.s
 have hav:=Q83 hm
 have hlen:=al_bnd hm
 have hal:(avL m).length=(av m).length:=by rw [avL_eq];simp
 have c0:=Q6t (L:=alL m) (k:=0) hlen (by omega) fun x hx=>by rw [al3 x hx];omega
 have c1:=Q6t (L:=alL m) (k:=1) hlen (by omega) fun x hx=>by rw [al3 x hx];omega
 unfold Q2c
 rw [e_avl hm]
 simp only [Option.bind_some,hal]
 refine QN (av m).length (fun i=>alN m i) (e:=alL m) rfl (by omega) (fun i hi=>?_) (by simp [alL];try omega) ?_
 ·have hL:=Q7h hm i
  have hL2:i * 12800≤320 * 12800:=Nat.mul_le_mul_right _ (by omega)
  simp only
  rw [if_pos (by omega)]
  simp only [Option.bind_assoc]
  refine QN (av m).length (fun k=>alN m i++alX m i k) (e:=alN m (i+1)) (by simp [alX]) (by omega) (fun k hk=>?_) (by simp [Q5W];try omega) ?_
  ·have hX:=Q7i m (by omega) i k
   have hX2:k * 40≤320 * 40:=Nat.mul_le_mul_right _ (by omega)
   simp only
   rw [if_pos (by omega),Qg (by omega),Qg (by omega),(e_amp hm (s:=i) (t:=k) (by omega) (by omega)).1]
   simp only [Option.bind_some,Option.bind_assoc]
   have hH:(amp m i k).length≤40:=Nat.le_trans (Q3P _ _ _ _ _) (by omega)
   refine QN (amp m i k).length (fun j=>(alN m i++alX m i k)++((amp m i k).take j).map fun f=>[(i:Int),(k:Int),f]) (e:=alN m i++alX m i (k+1)) (by simp) (by omega) (fun j hj=>?_) (by simp [Q5X,alF]) ?_
   ·have hs:(amp m i k).take (j+1)=(amp m i k).take j++[ix (amp m i k) j]:=by rw [List.take_succ_eq_append_getElem hj,Q1w _ _ hj]
    simp (disch:=omega) [Qg,B64,hs,hj];try omega
   try simp only [Option.bind_some]
   rw [Qg (by unfold B64;omega)]
  try simp only [Option.bind_some]
  rw [Qg (by unfold B64;omega)]
 rw [c0,c1]
 simp only [Option.bind_some]
 refine Q8A (av m).length (fun s=>posL (alL m) [(s:Int),(s:Int),ix m.f.s.id (gx (av m) s).x_]) (e:=tab (av m).length fun s=>posL (alL m) [(s:Int),(s:Int),ix m.f.s.id (gx (av m) s).x_]) (by omega) (fun i hi=>?_) (by simp;try omega) ?_
 ·have hx:=(gxm hm (s:=i) (by omega)).x
  have ei:=avL_at hi
  have e0:ix (rx (avL m) i) 0=(gx (av m) i).x_:=by rw [ei];rfl
  simp only
  rw [if_pos (by omega),Qg (by omega),Qg (by rw [ei];simp),e0,Qg (by omega),e_findB hlen]
  rfl
 by_cases h40:(av m).length≤8∧(alL m).length≤40
 ·rw [if_pos h40]
  refine QN (alL m).length (fun i=>tab i fun i=>tab (alL m).length (bRow (alL m) (aCmp m) i)) (e:=(aC m).cs) rfl (by omega) (fun i hi=>?_) (by simp;rfl) (by simp [aC,bC])
  simp only
  rw [if_pos (by omega),Q64]
  rw [QP (by simp only [List.length_map];omega)]
  simp only [Option.bind_some,if_true]
  obtain ⟨x,y,f,hx,hy,hf,hi3⟩:=Q81 hi
  have fa:=(Q3S hf).1
  refine QN (alL m).length (fun j=>tab j (bRow (alL m) (aCmp m) i)) (e:=tab (alL m).length (bRow (alL m) (aCmp m) i)) rfl (by omega) (fun j hj=>?_) (by simp) ?_
  ·obtain ⟨y',z,g,hy',hz,hg,hj3⟩:=Q81 hj
   have ga:=(Q3S hg).1
   simp only
   rw [if_pos (by omega),Qg (by omega),Qg (by rw [hi3];simp),Qg (by omega),Qg (by rw [hj3];simp),Q6l]
   by_cases e:ix (rx (alL m) i) 1=ix (rx (alL m) j) 0
   ·have q:bRow (alL m) (aCmp m) i j=posL (alL m) [ix (rx (alL m) i) 0,ix (rx (alL m) j) 1,ix (rx m.f.s.cs (ix (rx (alL m) i) 2)) (ix (rx (alL m) j) 2)]:=by unfold bRow;rw [if_pos e];rfl
    rw [if_pos e,Qg (by omega),Qg (by rw [hi3];simp),Qg (by omega),Qg (by rw [hj3];simp),Qg (by omega),Qg (by rw [hi3];simp),Qg (by omega),Qg (by rw [hj3];simp),q]
    have e':y=y':=by rw [hi3,hj3] at e;simpa [ix] using e
    subst e'
    have b:=Ar.thn hc (f:=ix (rx (alL m) i) 2) (g:=ix (rx (alL m) j) 2) (by rw [hi3];exact fa) (by rw [hj3];exact ga)
    rw [b.1]
    simp only [Option.bind_some]
    rw [e_findB hlen]
    simp only [Option.bind_some]
    rw [Qg (by simp;omega),Qg (by unfold B64;omega)]
   have q:bRow (alL m) (aCmp m) i j = -1:=by unfold bRow;rw [if_neg e]
   rw [if_neg e,q]
   simp only [Option.bind_some]
   rw [Qg (by simp;omega),Qg (by unfold B64;omega)]
  try simp only
  rw [Qg (by simp;omega),Qg (by unfold B64;omega),Q6l]
 rw [if_neg h40]
 refine QN 0 (fun _=>[]) (e:=[]) rfl (by omega) (fun i hi=>by omega) ?_ (by simp [aC,bC])
 simp only
 by_cases h0:(0:Int)<((alL m).length:Int)
 ·rw [if_pos (by simpa using h0),Q64,QB (by simp only [List.length_map];omega)]
  simp
 rw [if_neg (by simpa using h0)]
 simp
end Go.Vc.T
namespace Go.Vc.T
open Go Go.Vc Go.Proofs
attribute [local simp] Q1 Q6 XAlgebra.cells XAlgebras.cells
noncomputable def QU (k_:XAlgebras) (i_:Int) (j_:Int) (f_:Int):Option Int :=
 (Q4u [[i_,j_,f_]]).bind fun v1 =>
 some ((Q3g v1 k_.at_).getD 0)
theorem Q2O (k_:XAlgebras) (i_:Int) (j_:Int) (f_:Int) (r:Int) (h:QU k_ i_ j_ f_=some r):Contract Tryz.prog 65 [.rptr (k_.cells true),.val (.int .i64 i_),.val (.int .i64 j_),.val (.int .i64 f_)] (.val (.int .i64 r)):=by
 refine Qk (rvs:=[.tmp 8]) (rs:=[.val (.int .i64 r)]) Tryz.func65 rfl rfl rfl rfl (by simp [Tryz.f65]) fun F hN hP=>?_
 unfold QU at h
 refine Q8 ?_
 refine runQ hN fun K hK=>?_
 simp [-Q0,-Q9,-Q3,-Qa,-Q4,eL,eI,Q2,Qf,Q6,Mnd.cells,XAlgebras.cells]
 repeat with_reducible refine sdQ ?_
 refine hK _ ?_;clear hK K
 refine tn ?_
 refine Qd (st':=⟨[(0,.rptr [.rptr (Mnd.cells true k_.m_),.val (.int .i64 k_.category_.n),.lst true 1 (Is k_.category_.fr),.lst true 1 (Is k_.category_.to),.lst true 1 (Is k_.category_.id),.lst true 1 (Ls k_.category_.cs),.lst true 1 (Es Q1 k_.objects_),.lst true 1 (Ls k_.arrows_),.cmap .str (Msi k_.at_)]),(1,.val (.int .i64 i_)),(2,.val (.int .i64 j_)),(3,.val (.int .i64 f_))],[],0⟩) (Wk.r1 [] (by simp [hP,hhOk,back,Mnd.cells,XAlgebras.cells,UA,U1,IA,I1,LA,L1,BA,B1,EA,E1,E2,eB,eI,eL,Qe _ Q1 _ (fun _=>rfl),Qe _ Q6 _ (fun _=>rfl)])) ?_
 refine Q8 ?_
 refine Qw [] mo (by rw [hN];decide) fun K hK=>?_
 simp [-Q0,-Q9,-Q3,-Qa,-Q4,eL,eI,Q2,Qf,Q6,Mnd.cells,XAlgebras.cells]
 repeat with_reducible refine sdQ ?_
 replace h:=bind_some h
 obtain ⟨v1,hv1,h⟩:=h
 refine QZ (fz:=[]) (w_i_key _ v1 hv1) (.cons (.lits (es:=_) rfl (.cons rfl (.cons (.lits (es:=_) rfl (.cons rfl (.cons .val .nil) (.cons rfl (.cons .val .nil) (.cons rfl (.cons .val .nil) .nil))) rfl) .nil) .nil) rfl) .nil) ?_
 simp [-Q0,-Q9,-Q3,-Qa,-Q4,unk,unA,unE,unT,unC,flat,eL,eI,Q2,Qf,Q6,Mnd.cells,XAlgebras.cells]
 repeat with_reducible refine sdQ ?_
 refine hK _ ?_;clear hK K
 refine tn ?_
 refine Qd (st':=⟨[(8,.val (.int .i64 ((Q3g v1 k_.at_).getD 0)))],[],0⟩) (Wk.r1 [] (by simp [hP,hhOk,back,Mnd.cells,XAlgebras.cells,UA,U1,IA,I1,LA,L1,BA,B1,EA,E1,E2,eB,eI,eL,Qe _ Q1 _ (fun _=>rfl),Qe _ Q6 _ (fun _=>rfl)])) ?_
 refine Qn ?_
 have hr:=Option.some.inj h
 rw [← hr]
 refine ⟨_,(.tmp .nil),?_⟩
 refine ⟨(.one rfl rfl .nil),[.val (.int .i64 ((Q3g v1 k_.at_).getD 0))],[],by simp [Mnd.cells,XAlgebras.cells,UA,U1,IA,I1,LA,L1,BA,B1,EA,E1,E2,eB,eI,eL,Qe _ Q1 _ (fun _=>rfl),Qe _ Q6 _ (fun _=>rfl)],by simp,(UpL.refl _)⟩
end Go.Vc.T
namespace Go.Vc.T
open Go Go.Vc Go.Proofs
attribute [local simp] Q1 Q6 XAlgebra.cells XAlgebras.cells
noncomputable def QG (f_:Int) (g_:Int) (c0_:XAlgebras) (c1_:Cat):Option Int :=
 ass (0≤f_∧f_<(c0_.arrows_.length:Int)) <|
 ass (0≤g_∧g_<(c0_.arrows_.length:Int)) <|
 ass ((0:Int)≤0∧0<((rx c0_.arrows_ f_).length:Int)) <|
 ass ((0:Int)≤1∧1<((rx c0_.arrows_ g_).length:Int)) <|
 ass ((0:Int)≤2∧2<((rx c0_.arrows_ f_).length:Int)) <|
 ass ((0:Int)≤2∧2<((rx c0_.arrows_ g_).length:Int)) <|
 (Qq c1_ (ix (rx c0_.arrows_ f_) 2) (ix (rx c0_.arrows_ g_) 2)).bind fun v7 =>
 (QU c0_ (ix (rx c0_.arrows_ f_) 0) (ix (rx c0_.arrows_ g_) 1) v7).bind fun v8 =>
 some v8
theorem Q2p (f_:Int) (g_:Int) (c0_:XAlgebras) (c1_:Cat) (r:Int) (h:QG f_ g_ c0_ c1_=some r):Contract Tryz.prog 104 [.val (.int .i64 f_),.val (.int .i64 g_),.rptr [.rptr [.rptr (Mnd.cells true c0_.m_),.val (.int .i64 c0_.category_.n),.lst true 1 (Is c0_.category_.fr),.lst true 1 (Is c0_.category_.to),.lst true 1 (Is c0_.category_.id),.lst true 1 (Ls c0_.category_.cs),.lst true 1 (Es Q1 c0_.objects_),.lst true 1 (Ls c0_.arrows_),.cmap .str (Msi c0_.at_)]],.rptr [.rptr (Cat.cells true c1_)]] (.val (.int .i64 r)):=by
 refine Qk (rvs:=[.tmp 6]) (rs:=[.val (.int .i64 r)]) Tryz.func104 rfl rfl rfl rfl (by simp [Tryz.f104]) fun F hN hP=>?_
 unfold QG at h
 refine Q8 ?_
 refine runQ hN fun K hK=>?_
 simp [-Q0,-Q9,-Q3,-Qa,-Q4,eL,eI,Q2,Q7,Qf,Q6,Cat.cells,Mnd.cells,XAlgebras.cells]
 repeat with_reducible refine sdQ ?_
 refine hK _ ?_;clear hK K
 refine tn ?_
 refine Qd (st':=⟨[(0,.val (.int .i64 f_)),(1,.val (.int .i64 g_)),(2,.rptr [.rptr [.rptr (Mnd.cells true c0_.m_),.val (.int .i64 c0_.category_.n),.lst true 1 (Is c0_.category_.fr),.lst true 1 (Is c0_.category_.to),.lst true 1 (Is c0_.category_.id),.lst true 1 (Ls c0_.category_.cs),.lst true 1 (Es Q1 c0_.objects_),.lst true 1 (Ls c0_.arrows_),.cmap .str (Msi c0_.at_)]]),(3,.rptr [.rptr (Cat.cells true c1_)])],[],0⟩) (Wk.r1 [] (by simp [hP,hhOk,back,Cat.cells,Mnd.cells,XAlgebras.cells,UA,U1,IA,I1,LA,L1,BA,B1,EA,E1,E2,eB,eI,eL,Qe _ Q1 _ (fun _=>rfl),Qe _ Q6 _ (fun _=>rfl)])) ?_
 refine Q8 ?_
 refine runQ hN fun K hK=>?_
 replace h:=Qc h
 obtain ⟨a1,h⟩:=h
 replace h:=Qc h
 obtain ⟨a2,h⟩:=h
 simp [-Q0,-Q9,-Q3,-Qa,-Q4,eL,eI,Q2,Q7,Qf,Q6,Cat.cells,Mnd.cells,XAlgebras.cells,at_L a1,at_L a2]
 repeat with_reducible refine sdQ ?_
 refine hK _ ?_;clear hK K
 refine tn ?_
 refine Qd (st':=⟨[(2,.rptr [.rptr [.rptr (Mnd.cells true c0_.m_),.val (.int .i64 c0_.category_.n),.lst true 1 (Is c0_.category_.fr),.lst true 1 (Is c0_.category_.to),.lst true 1 (Is c0_.category_.id),.lst true 1 (Ls c0_.category_.cs),.lst true 1 (Es Q1 c0_.objects_),.lst true 1 (Ls c0_.arrows_),.cmap .str (Msi c0_.at_)]]),(3,.rptr [.rptr (Cat.cells true c1_)]),(7,.lst true 1 (Is (rx c0_.arrows_ f_))),(8,.lst true 1 (Is (rx c0_.arrows_ g_)))],[],0⟩) (Wk.r1 [] (by simp [hP,hhOk,back,Cat.cells,Mnd.cells,XAlgebras.cells,UA,U1,IA,I1,LA,L1,BA,B1,EA,E1,E2,eB,eI,eL,Qe _ Q1 _ (fun _=>rfl),Qe _ Q6 _ (fun _=>rfl)])) ?_
 refine Q8 ?_
 refine runQ hN fun K hK=>?_
 replace h:=Qc h
 obtain ⟨a3,h⟩:=h
 replace h:=Qc h
 obtain ⟨a4,h⟩:=h
 replace h:=Qc h
 obtain ⟨a5,h⟩:=h
 replace h:=Qc h
 obtain ⟨a6,h⟩:=h
 simp [-Q0,-Q9,-Q3,-Qa,-Q4,eL,eI,Q2,Q7,Qf,Q6,Cat.cells,Mnd.cells,XAlgebras.cells,(show (Is (rx c0_.arrows_ f_))[0]? = some [.val (.int .i64 (ix (rx c0_.arrows_ f_) 0))] from at_I (j:=0) a3),(show (Is (rx c0_.arrows_ g_))[1]? = some [.val (.int .i64 (ix (rx c0_.arrows_ g_) 1))] from at_I (j:=1) a4),(show (Is (rx c0_.arrows_ f_))[2]? = some [.val (.int .i64 (ix (rx c0_.arrows_ f_) 2))] from at_I (j:=2) a5),(show (Is (rx c0_.arrows_ g_))[2]? = some [.val (.int .i64 (ix (rx c0_.arrows_ g_) 2))] from at_I (j:=2) a6)]
 repeat with_reducible refine sdQ ?_
 replace h:=bind_some h
 obtain ⟨v7,hv7,h⟩:=h
 refine Q5 (QC _ _ _ v7 hv7) (.cons (.preT (by simp [Cat.cells,Mnd.cells,XAlgebras.cells])) (.cons .val (.cons .val .nil))) ?_
 simp [-Q0,-Q9,-Q3,-Qa,-Q4,unk,unA,unE,unT,unC,flat,eL,eI,Q2,Q7,Qf,Q6,Cat.cells,Mnd.cells,XAlgebras.cells]
 repeat with_reducible refine sdQ ?_
 replace h:=bind_some h
 obtain ⟨v8,hv8,h⟩:=h
 refine Q5 (Q2O _ _ _ _ v8 hv8) (.cons (.preT (by simp [Cat.cells,Mnd.cells,XAlgebras.cells])) (.cons .val (.cons .val (.cons .val .nil)))) ?_
 simp [-Q0,-Q9,-Q3,-Qa,-Q4,unk,unA,unE,unT,unC,flat,eL,eI,Q2,Q7,Qf,Q6,Cat.cells,Mnd.cells,XAlgebras.cells]
 repeat with_reducible refine sdQ ?_
 refine hK _ ?_;clear hK K
 refine tn ?_
 refine Qd (st':=⟨[(6,.val (.int .i64 v8))],[],0⟩) (Wk.r1 [] (by simp [hP,hhOk,back,Cat.cells,Mnd.cells,XAlgebras.cells,UA,U1,IA,I1,LA,L1,BA,B1,EA,E1,E2,eB,eI,eL,Qe _ Q1 _ (fun _=>rfl),Qe _ Q6 _ (fun _=>rfl)])) ?_
 refine Qn ?_
 have hr:=Option.some.inj h
 rw [← hr]
 refine ⟨_,(.tmp .nil),?_⟩
 refine ⟨(.one rfl rfl .nil),[.val (.int .i64 v8)],[],by simp [Cat.cells,Mnd.cells,XAlgebras.cells,UA,U1,IA,I1,LA,L1,BA,B1,EA,E1,E2,eB,eI,eL,Qe _ Q1 _ (fun _=>rfl),Qe _ Q6 _ (fun _=>rfl)],by simp,(UpL.refl _)⟩
end Go.Vc.T
